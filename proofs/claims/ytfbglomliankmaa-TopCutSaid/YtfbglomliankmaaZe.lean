/-
  Lemmas and walks of functions, joined and with only what the claim needs.
  Conditions stand in each theorem.
-/
import Derived.Test.YtfbglomliankmaaProg
import Derived.Test.YtfbglomliankmaaRows
import Derived.Below
import Derived.Laws.AppendOwn
import Derived.Laws.Rows
import Derived.Laws.Slices
import Derived.Tactics
import Derived.OrdersHeld
import Derived.KernelRfl
import Derived.WalkKit
import Derived.Deep.AppendLies
import Derived.IntWalk
import Derived.Scope
import Derived.WalkSpells
import Derived.DeepKeys
import Derived.Deep.Upon
import Derived.Laws.Small
import Derived.RangeFuncLeaves
import Derived.RangeFuncSeq
import Derived.OrdersIn
import Derived.Sort.LoopGhostIn
import Derived.TacticsIn
import Derived.RangeFuncOwn
import Derived.WideKeyMaps
import Derived.DeepKeys4
import Derived.Carry
import Derived.Laws.CopyRow
import Derived.Laws.MakeOwn
import Derived.WalkArith
import Derived.Laws.Closers25b
import Derived.ProofKit
import Derived.OpenShut
import Derived.ChangeOld
import Derived.SizedLaws
import Derived.Deep.Slices
import Derived.Deep.Fields
import Derived.ChangeSame
import Derived.Lib.SmallJoins
import Derived.Test.YtfbglomliankmaaZd
section
set_option linter.unusedSimpArgs false
set_option linter.unusedVariables false
namespace Go.Proofs.Ytfbglomliankmaa.Cv
open Go.RowKit Go
open Go.K (setd setn ev nth over cl eI eP eT setM setF)
attribute [local irreducible] K.blk K.row
theorem some_un {x : Option RsT} (h : x.isSome = true) : x = some (unR x) := by
  cases x with
  | none => cases h
  | some r => rfl

set_option maxRecDepth 100000 in
set_option maxHeartbeats 4000000 in
theorem c53 {pf : Bool} {st : Int} {ps : List CvT} {A : Option Addr} {c br bp bb bB bk bm bh bo bl : Nat} {w0 : World} (hR : K.Rd w0 A 3 eC ps) (g : Good st ps) {f : Nat} (IH : Go52 pf st ps A c br bp bb bB bk bm bh bo bl f w0) {a : Nat} {deep b1 b2 : Int} {kvs : List (Value × Value)} {T : List K.Chunk} {w : World} (hst : K.St w0 (K.mv bm kvs :: K.blk br 24 [.int .i64 st, .slice A ps.length c] :: K.blk bp 4 [.bool pf] :: K.blk bb 48 [.slice (some ⟨bB, 0, none⟩) ps.length ps.length] :: K.blk bB 52 ((bnd st ps).flatMap K.eP) :: K.blk bk 112 [.map (some bm)] :: K.blk bh 113 [.func (.func 56) #[] #[.pointer (some ⟨br, 0, none⟩), .pointer (some ⟨bk, 0, none⟩), .pointer (some ⟨bl, 0, none⟩)]] :: K.blk bo 120 [.func (.func 52) #[] #[.pointer (some ⟨bh, 0, none⟩), .pointer (some ⟨br, 0, none⟩)]] :: K.blk bl 122 [.func (.func 53) #[] #[.pointer (some ⟨bb, 0, none⟩), .pointer (some ⟨bo, 0, none⟩), .pointer (some ⟨bp, 0, none⟩)]] :: T) w) (hkn : KnOk pf st ps kvs) (hf : a + f + 1 = ps.length) (hd : 0 ≤ deep ∧ deep ≤ 9000) :
    Calls Try.prog 53 [.int .i64 (a : Int), .int .i64 deep, .agg #[.int .i64 b1, .int .i64 b2], .pointer (some ⟨bb, 0, none⟩), .pointer (some ⟨bo, 0, none⟩), .pointer (some ⟨bp, 0, none⟩)].toArray w (K.RetU (fun z : RsT × List (Value × Value) => z.1 = lowS pf st ps (behS pf st ps f) a deep b1 b2 ∧ KnOk pf st ps z.2) (fun z => .agg #[.int .i64 z.1.1.1, .int .i64 z.1.1.2, .int .i64 z.1.2]) w0 (fun z => K.mv bm z.2 :: K.blk br 24 [.int .i64 st, .slice A ps.length c] :: K.blk bp 4 [.bool pf] :: K.blk bb 48 [.slice (some ⟨bB, 0, none⟩) ps.length ps.length] :: K.blk bB 52 ((bnd st ps).flatMap K.eP) :: K.blk bk 112 [.map (some bm)] :: K.blk bh 113 [.func (.func 56) #[] #[.pointer (some ⟨br, 0, none⟩), .pointer (some ⟨bk, 0, none⟩), .pointer (some ⟨bl, 0, none⟩)]] :: K.blk bo 120 [.func (.func 52) #[] #[.pointer (some ⟨bh, 0, none⟩), .pointer (some ⟨br, 0, none⟩)]] :: K.blk bl 122 [.func (.func 53) #[] #[.pointer (some ⟨bb, 0, none⟩), .pointer (some ⟨bo, 0, none⟩), .pointer (some ⟨bp, 0, none⟩)]] :: T)) := by
  have hgn := g.n
  have ha : a < ps.length := by omega
  have hbl : (bnd st ps).length = ps.length := bndF_len _
  have hbo := bnd_ok g ha
  have hc0 := eP_at0 (xs := bnd st ps) (k := a) (by omega)
  have hc1 := eP_at1 (xs := bnd st ps) (k := a) (by omega)
  refine K.enterU (args := [.int .i64 (a : Int), .int .i64 deep, .agg #[.int .i64 b1, .int .i64 b2], .pointer (some ⟨bb, 0, none⟩), .pointer (some ⟨bo, 0, none⟩), .pointer (some ⟨bp, 0, none⟩)]) Try.func53 rfl (n := 64) rfl hst ?_
  simp only [List.replicate, List.cons_append, List.nil_append]
  refine K.seq ?_
  refine K.region_lit ?_
  refine K.seq_new (K.box) rfl ?_
  intro b8
  try dsimp only [setd, setn, ev, nth, over, cl, eI, eP, eT, eC, List.map, List.append, List.drop, List.take]
  refine K.seq_new (K.alloc zr_119) rfl ?_
  intro b9
  try dsimp only [setd, setn, ev, nth, over, cl, eI, eP, eT, eC, List.map, List.append, List.drop, List.take]
  refine K.seq_nil ?_
  refine K.norm_then ?_
  refine K.scope ?_
  refine K.seq ?_
  refine K.region_lit ?_
  refine K.seq_pure (K.assign) rfl ?_
  dsimp only [setd, setn, ev, nth]
  refine K.seq_nil ?_
  refine K.norm_then ?_
  refine K.seq ?_
  refine K.region_lit ?_
  refine K.seq_new (K.alloc zr_119) rfl ?_
  intro b11
  try dsimp only [setd, setn, ev, nth, over, cl, eI, eP, eT, eC, List.map, List.append, List.drop, List.take]
  refine K.seq_nil ?_
  refine K.norm_then ?_
  refine K.seq ?_
  refine K.label ?_
  refine K.norm_then ?_
  refine K.seq ?_
  refine K.seq ?_
  refine K.permH (L' := _ :: _ :: _ :: _ :: _ :: _ :: _ :: _ :: _ :: _ :: _ :: _ :: _) (List.Perm.trans (List.perm_middle (l₁ := [_, _, _])) (List.Perm.cons _ (List.Perm.trans (List.perm_middle (l₁ := [_, _, _])) (List.Perm.cons _ (List.Perm.trans (List.perm_middle (l₁ := [_, _, _])) (List.Perm.cons _ (List.Perm.trans (List.perm_middle (l₁ := [_, _, _])) (List.Perm.cons _ (List.Perm.trans (List.perm_middle (l₁ := [_, _, _])) (List.Perm.cons _ (List.Perm.trans (List.perm_middle (l₁ := [_, _, _])) (List.Perm.cons _ (List.Perm.trans (List.perm_middle (l₁ := [_, _, _])) (List.Perm.cons _ (List.Perm.trans (List.perm_middle (l₁ := [_, _, _])) (List.Perm.cons _ (List.Perm.trans (List.perm_middle (l₁ := [_, _, _])) (List.Perm.cons _ (List.Perm.trans (List.perm_middle (l₁ := [_, _])) (List.Perm.cons _ (List.Perm.trans (List.perm_middle (l₁ := [_])) (List.Perm.cons _ (List.Perm.refl _))))))))))))))))))))))) ?_
  refine K.draw_L [] Try_mixed ?_
  refine K.d_mem 0 rfl (K.load1_own one_48 rfl (K.m3) rfl) (fun _ h => h) (by kernel_rfl) (by kernel_rfl) rfl ?_
  try dsimp only [setd, setn, ev, nth, over, cl, eI, eP, eT, eC, List.map, List.append, List.drop, List.take]
  refine K.d_pure 1 rfl (K.move) (by kernel_rfl) rfl ?_
  dsimp only [setd, setn, ev, nth]
  refine K.d_pure 2 rfl (K.Pure.eq (K.indexAddr_sl sl_48 rfl rfl (by omega) (by omega)) (show _ = Value.pointer (some ⟨bB, 0 + a * 2, none⟩) from by rw [K.add_lit, Int.toNat_natCast])) (by kernel_rfl) rfl ?_
  try dsimp only [setd, setn, ev, nth, over, cl, eI, eP, eT, eC, List.map, List.append, List.drop, List.take]
  try dsimp only [setd, setn, ev, nth, over, cl, eI, eP, eT, eC, List.map, List.append, List.drop, List.take]
  refine K.d_pure 3 rfl (K.Pure.eq (K.fieldAddr fo_52_1 rfl) (show _ = Value.pointer (some ⟨bB, 0 + a * 2 + 1, none⟩) from by rw [K.add_lit])) (by kernel_rfl) rfl ?_
  dsimp only [setd, setn, ev, nth]
  refine K.d_mem 4 rfl (K.load_at one_3 rfl (K.PtrL.own' ((K.m4))) hc1) (fun _ h => h) (by kernel_rfl) (by kernel_rfl) rfl ?_
  try dsimp only [setd, setn, ev, nth, over, cl, eI, eP, eT, eC, List.map, List.append, List.drop, List.take]
  refine K.d_mem 5 rfl (K.load1_own one_48 rfl (K.m3) rfl) (fun _ h => h) (by kernel_rfl) (by kernel_rfl) rfl ?_
  try dsimp only [setd, setn, ev, nth, over, cl, eI, eP, eT, eC, List.map, List.append, List.drop, List.take]
  refine K.d_pure 6 rfl (K.move) (by kernel_rfl) rfl ?_
  dsimp only [setd, setn, ev, nth]
  refine K.d_pure 7 rfl (K.Pure.eq (K.indexAddr_sl sl_48 rfl rfl (by omega) (by omega)) (show _ = Value.pointer (some ⟨bB, 0 + a * 2, none⟩) from by rw [K.add_lit, Int.toNat_natCast])) (by kernel_rfl) rfl ?_
  try dsimp only [setd, setn, ev, nth, over, cl, eI, eP, eT, eC, List.map, List.append, List.drop, List.take]
  try dsimp only [setd, setn, ev, nth, over, cl, eI, eP, eT, eC, List.map, List.append, List.drop, List.take]
  refine K.d_pure 8 rfl (K.Pure.eq (K.fieldAddr fo_52_0 rfl) (show _ = Value.pointer (some ⟨bB, 0 + a * 2 + 0, none⟩) from by rw [K.add_lit])) (by kernel_rfl) rfl ?_
  dsimp only [setd, setn, ev, nth]
  refine K.d_mem 9 rfl (K.load_at one_3 rfl (K.PtrL.own' ((K.m4))) hc0) (fun _ h => h) (by kernel_rfl) (by kernel_rfl) rfl ?_
  try dsimp only [setd, setn, ev, nth, over, cl, eI, eP, eT, eC, List.map, List.append, List.drop, List.take]
  refine K.d_pure 10 rfl (K.sub_i64 rfl rfl (by omega)) (by kernel_rfl) rfl ?_
  dsimp only [setd, setn, ev, nth]
  refine K.d_pure 11 rfl (K.add_i64 rfl rfl (by omega)) (by kernel_rfl) rfl ?_
  dsimp only [setd, setn, ev, nth]
  refine K.d_pure 12 rfl (K.move) (by kernel_rfl) rfl ?_
  dsimp only [setd, setn, ev, nth]
  refine K.d_done (by kernel_rfl) ?_
  refine K.norm_then ?_
  refine K.block ?_
  refine K.loopW [10, 28] [12, 13, 14, 15, 29, 30, 31, 32, 33, 34, 35, 36, 37, 38, 39, 40, 41, 42, 43, 44, 45, 46, 47, 48, 49, 50, 51, 52, 53, 54, 55, 56, 57, 58, 59, 60, 61, 62, 63, 64, 65, 66, 67, 68] (fun vi L => ∃ (k : Nat) (kv1 : List (Value × Value)), vi = [.bool (loS pf (ownS ps (behS pf st ps f) a deep) ((bnd st ps).getD a default).1 b1 b2 k).isSome, .int .i64 (k : Int)] ∧ L = K.mv bm kv1 :: K.blk br 24 [.int .i64 st, .slice A ps.length c] :: K.blk bp 4 [.bool pf] :: K.blk bb 48 [.slice (some ⟨bB, 0, none⟩) ps.length ps.length] :: K.blk bB 52 ((bnd st ps).flatMap K.eP) :: K.blk bk 112 [.map (some bm)] :: K.blk bh 113 [.func (.func 56) #[] #[.pointer (some ⟨br, 0, none⟩), .pointer (some ⟨bk, 0, none⟩), .pointer (some ⟨bl, 0, none⟩)]] :: K.blk bo 120 [.func (.func 52) #[] #[.pointer (some ⟨bh, 0, none⟩), .pointer (some ⟨br, 0, none⟩)]] :: K.blk bl 122 [.func (.func 53) #[] #[.pointer (some ⟨bb, 0, none⟩), .pointer (some ⟨bo, 0, none⟩), .pointer (some ⟨bp, 0, none⟩)]] :: K.blk b8 52 [.int .i64 b1, .int .i64 b2] :: K.blk b9 119 [.int .i64 0, .int .i64 0, .int .i64 0] :: K.blk b11 119 [.int .i64 (unR (loS pf (ownS ps (behS pf st ps f) a deep) ((bnd st ps).getD a default).1 b1 b2 k)).1.1, .int .i64 (unR (loS pf (ownS ps (behS pf st ps f) a deep) ((bnd st ps).getD a default).1 b1 b2 k)).1.2, .int .i64 (unR (loS pf (ownS ps (behS pf st ps f) a deep) ((bnd st ps).getD a default).1 b1 b2 k)).2] :: T ∧ KnOk pf st ps kv1 ∧ k ≤ (((bnd st ps).getD a default).2 - ((bnd st ps).getD a default).1 + 1).toNat) (fun vi => (((bnd st ps).getD a default).2 - ((bnd st ps).getD a default).1 + 1).toNat - (intOf (K.nth vi 1)).toNat) ?_ ?_
  · exact ⟨0, kvs, rfl, rfl, hkn, Nat.zero_le _⟩
  intro vi vr L hJ
  obtain ⟨k, kv1, rfl, rfl, hk1, hkn1⟩ := hJ
  try dsimp only [setd, setn, ev, nth, over, cl, eI, eP, eT, eC, setM, setF, List.map, List.append, List.drop, List.take]
  refine K.seq ?_
  refine K.region_lit ?_
  refine K.seq_pure (K.lss rfl rfl) rfl ?_
  dsimp only [setd, setn, ev, nth]
  refine K.seq_nil ?_
  refine K.norm_then ?_
  refine K.seq ?_
  refine K.cond rfl (fun ht29 => ?_) (fun ht29 => ?_)
  · try replace ht29 := of_decide_eq_true ht29
    have hk : k < (((bnd st ps).getD a default).2 - ((bnd st ps).getD a default).1 + 1).toNat := by omega
    refine K.skip ?_
    refine K.norm_then ?_
    refine K.seq ?_
    refine K.block ?_
    refine K.seq ?_
    refine K.region_lit ?_
    refine K.seq_pure (K.move) rfl ?_
    dsimp only [setd, setn, ev, nth]
    refine K.seq_pure (K.assign) rfl ?_
    dsimp only [setd, setn, ev, nth]
    refine K.seq_nil ?_
    refine K.norm_then ?_
    refine K.seq ?_
    refine K.region_lit ?_
    refine K.seq_sil (K.load1_own one_48 rfl (K.m3) rfl) rfl ?_
    try dsimp only [setd, setn, ev, nth, over, cl, eI, eP, eT, eC, List.map, List.append, List.drop, List.take]
    refine K.seq_pure (K.move) rfl ?_
    dsimp only [setd, setn, ev, nth]
    refine K.seq_pure (K.Pure.eq (K.indexAddr_sl sl_48 rfl rfl (by omega) (by omega)) (show _ = Value.pointer (some ⟨bB, 0 + a * 2, none⟩) from by rw [K.add_lit, Int.toNat_natCast])) rfl ?_
    try dsimp only [setd, setn, ev, nth, over, cl, eI, eP, eT, eC, List.map, List.append, List.drop, List.take]
    try dsimp only [setd, setn, ev, nth, over, cl, eI, eP, eT, eC, List.map, List.append, List.drop, List.take]
    refine K.seq_pure (K.Pure.eq (K.fieldAddr fo_52_0 rfl) (show _ = Value.pointer (some ⟨bB, 0 + a * 2 + 0, none⟩) from by rw [K.add_lit])) rfl ?_
    dsimp only [setd, setn, ev, nth]
    refine K.seq_sil (K.load_at one_3 rfl (K.PtrL.own' ((K.m4))) hc0) rfl ?_
    try dsimp only [setd, setn, ev, nth, over, cl, eI, eP, eT, eC, List.map, List.append, List.drop, List.take]
    refine K.seq_pure (K.move) rfl ?_
    dsimp only [setd, setn, ev, nth]
    refine K.seq_pure (K.add_i64 rfl rfl (by omega)) rfl ?_
    dsimp only [setd, setn, ev, nth]
    refine K.seq_pure (K.assign) rfl ?_
    dsimp only [setd, setn, ev, nth]
    refine K.seq_nil ?_
    refine K.norm_then ?_
    refine K.seq ?_
    refine K.seq ?_
    refine K.region_lit ?_
    refine K.seq_pure (K.fieldAddr_lit fo_52_0 rfl) rfl ?_
    dsimp only [setd, setn, ev, nth]
    refine K.seq_sil (K.load1_own one_3 rfl (K.m9) rfl) rfl ?_
    try dsimp only [setd, setn, ev, nth, over, cl, eI, eP, eT, eC, List.map, List.append, List.drop, List.take]
    refine K.seq_pure (K.fieldAddr_lit fo_52_1 rfl) rfl ?_
    dsimp only [setd, setn, ev, nth]
    refine K.seq_sil (K.load1_own one_3 rfl (K.m9) rfl) rfl ?_
    try dsimp only [setd, setn, ev, nth, over, cl, eI, eP, eT, eC, List.map, List.append, List.drop, List.take]
    refine K.seq_pure (K.move) rfl ?_
    dsimp only [setd, setn, ev, nth]
    refine K.seq_new (K.buildSlice (bs1 _)) rfl ?_
    intro b43
    try dsimp only [setd, setn, ev, nth, over, cl, eI, eP, eT, eC, List.map, List.append, List.drop, List.take]
    refine K.seq_call (K.call_g cal_45 (fun F w hF hw => c45_1 hw (hF _ (K.m0)))) rfl ?_
    try dsimp only [setd, setn, ev, nth, over, cl, eI, eP, eT, eC, List.map, List.append, List.drop, List.take]
    refine K.seq_nil ?_
    refine K.norm_then ?_
    refine K.cond rfl (fun ht44 => ?_) (fun ht44 => ?_)
    · try replace ht44 := of_decide_eq_true ht44
      refine K.exit ?_
      refine K.exit_then ?_
      refine K.exit_here ?_
      refine K.norm_then ?_
      refine K.region_lit ?_
      refine K.seq_pure (K.add_i64 rfl rfl (by omega)) rfl ?_
      dsimp only [setd, setn, ev, nth]
      refine K.seq_pure (K.move) rfl ?_
      dsimp only [setd, setn, ev, nth]
      refine K.seq_nil ?_
      have hsk : (((bnd st ps).getD a default).1 + (k : Int)) < b1 ∨ (((bnd st ps).getD a default).1 + (k : Int)) > b2 := by omega
      have he : (loS pf (ownS ps (behS pf st ps f) a deep) ((bnd st ps).getD a default).1 b1 b2 (k + 1)) = (loS pf (ownS ps (behS pf st ps f) a deep) ((bnd st ps).getD a default).1 b1 b2 k) := lo_skip hsk
      exact K.round_endW (L'' := K.mv bm kv1 :: K.blk br 24 [.int .i64 st, .slice A ps.length c] :: K.blk bp 4 [.bool pf] :: K.blk bb 48 [.slice (some ⟨bB, 0, none⟩) ps.length ps.length] :: K.blk bB 52 ((bnd st ps).flatMap K.eP) :: K.blk bk 112 [.map (some bm)] :: K.blk bh 113 [.func (.func 56) #[] #[.pointer (some ⟨br, 0, none⟩), .pointer (some ⟨bk, 0, none⟩), .pointer (some ⟨bl, 0, none⟩)]] :: K.blk bo 120 [.func (.func 52) #[] #[.pointer (some ⟨bh, 0, none⟩), .pointer (some ⟨br, 0, none⟩)]] :: K.blk bl 122 [.func (.func 53) #[] #[.pointer (some ⟨bb, 0, none⟩), .pointer (some ⟨bo, 0, none⟩), .pointer (some ⟨bp, 0, none⟩)]] :: K.blk b8 52 [.int .i64 b1, .int .i64 b2] :: K.blk b9 119 [.int .i64 0, .int .i64 0, .int .i64 0] :: K.blk b11 119 [.int .i64 (unR (loS pf (ownS ps (behS pf st ps f) a deep) ((bnd st ps).getD a default).1 b1 b2 k)).1.1, .int .i64 (unR (loS pf (ownS ps (behS pf st ps f) a deep) ((bnd st ps).getD a default).1 b1 b2 k)).1.2, .int .i64 (unR (loS pf (ownS ps (behS pf st ps f) a deep) ((bnd st ps).getD a default).1 b1 b2 k)).2] :: T) [.bool (loS pf (ownS ps (behS pf st ps f) a deep) ((bnd st ps).getD a default).1 b1 b2 k).isSome, .int .i64 ((k : Int) + 1)] ⟨k + 1, kv1, by rw [he]; rfl, by rw [he], hk1, by omega⟩ (by dsimp only [K.nth, intOf]; omega) (List.Sublist.cons _ (List.Sublist.refl _)) (by kernel_rfl)
    try replace ht44 := of_decide_eq_false ht44
    refine K.skip ?_
    refine K.norm_then ?_
    refine K.seq ?_
    refine K.weak (List.Sublist.cons _ (List.Sublist.cons_cons _ (List.Sublist.cons_cons _ (List.Sublist.cons_cons _ (List.Sublist.cons_cons _ (List.Sublist.cons_cons _ (List.Sublist.cons_cons _ (List.Sublist.cons_cons _ (List.Sublist.cons_cons _ (List.Sublist.cons_cons _ (List.Sublist.cons_cons _ (List.Sublist.cons_cons _ (List.Sublist.cons_cons _ (List.Sublist.refl _)))))))))))))) ?_
    refine K.permH (L' := _ :: _ :: _ :: _ :: _ :: _ :: _ :: _ :: _ :: _ :: _ :: _ :: _) (List.Perm.refl _) ?_
    refine K.region_lit ?_
    refine K.seq_sil (K.load1_own one_120 rfl (K.m7) rfl) rfl ?_
    try dsimp only [setd, setn, ev, nth, over, cl, eI, eP, eT, eC, List.map, List.append, List.drop, List.take]
    refine K.seq_pure (K.move) rfl ?_
    dsimp only [setd, setn, ev, nth]
    refine K.seq_pure (K.move) rfl ?_
    dsimp only [setd, setn, ev, nth]
    refine K.seq_pure (K.build (bl115 _ _)) rfl ?_
    try dsimp only [setd, setn, ev, nth, over, cl, eI, eP, eT, eC, List.map, List.append, List.drop, List.take]
    refine K.seq_pure (K.move) rfl ?_
    dsimp only [setd, setn, ev, nth]
    refine K.seq_upd (K.callU (first := []) (cap := [.pointer (some ⟨bh, 0, none⟩), .pointer (some ⟨br, 0, none⟩)]) rfl cal_52 (fun w hw => IH (h := (((bnd st ps).getD a default).1 + (k : Int))) (T := _ :: _ :: _ :: T) hw hk1 hf (by omega) hd)) rfl ?_
    rintro ⟨z50, kv50⟩ hz50
    try dsimp only [setd, setn, ev, nth, over, cl, eI, eP, eT, eC, List.map, List.append, List.drop, List.take]
    obtain ⟨e50, hk50⟩ : z50 = (ownS ps (behS pf st ps f) a deep) (((bnd st ps).getD a default).1 + (k : Int)) ∧ KnOk pf st ps kv50 := hz50
    subst e50
    try dsimp only [setd, setn, ev, nth, over, cl, eI, eP, eT, eC, List.map, List.append, List.drop, List.take]
    refine K.seq_new (K.alloc zr_117) rfl ?_
    intro b14
    try dsimp only [setd, setn, ev, nth, over, cl, eI, eP, eT, eC, List.map, List.append, List.drop, List.take]
    refine K.seq_st (K.store_all sz_117 rfl rfl rfl rfl (K.rp0)) rfl ?_
    try dsimp only [setd, setn, ev, nth, over, cl, eI, eP, eT, eC, List.map, List.append, List.drop, List.take]
    refine K.seq_nil ?_
    refine K.norm_then ?_
    refine K.seq ?_
    refine K.region_lit ?_
    refine K.seq_sil (K.loadA_own ag_117 rfl (K.m0) rfl) rfl ?_
    try dsimp only [setd, setn, ev, nth, over, cl, eI, eP, eT, eC, List.map, List.append, List.drop, List.take]
    refine K.seq_pure (K.mkFunc) rfl ?_
    try dsimp only [setd, setn, ev, nth, over, cl, eI, eP, eT, eC, List.map, List.append, List.drop, List.take]
    refine K.seq_pure (K.assign) rfl ?_
    dsimp only [setd, setn, ev, nth]
    refine K.seq_nil ?_
    refine K.norm_then ?_
    refine K.seq ?_
    refine K.seq ?_
    refine K.region_lit ?_
    refine K.seq_sil (K.load1_own one_4 rfl (K.m3) rfl) rfl ?_
    try dsimp only [setd, setn, ev, nth, over, cl, eI, eP, eT, eC, List.map, List.append, List.drop, List.take]
    refine K.seq_nil ?_
    refine K.norm_then ?_
    refine K.cond rfl (fun ht53 => ?_) (fun ht53 => ?_)
    · try replace ht53 := of_decide_eq_true ht53
      refine K.region_lit ?_
      refine K.seq_sil (K.loadA_own ag_117 rfl (K.m0) rfl) rfl ?_
      try dsimp only [setd, setn, ev, nth, over, cl, eI, eP, eT, eC, List.map, List.append, List.drop, List.take]
      refine K.seq_pure (K.mkFunc) rfl ?_
      try dsimp only [setd, setn, ev, nth, over, cl, eI, eP, eT, eC, List.map, List.append, List.drop, List.take]
      refine K.seq_pure (K.assign) rfl ?_
      dsimp only [setd, setn, ev, nth]
      refine K.seq_nil ?_
      refine K.norm_then ?_
      refine K.seq ?_
      refine K.region_lit ?_
      refine K.seq_pure (K.move) rfl ?_
      dsimp only [setd, setn, ev, nth]
      first | refine K.seq_pure (K.not_d rfl) rfl ?_ | refine K.seq_pure (K.not_ rfl) rfl ?_
      try dsimp only [setd, setn, ev, nth, over, cl, eI, eP, eT, eC, List.map, List.append, List.drop, List.take]
      refine K.seq_pure (K.move) rfl ?_
      dsimp only [setd, setn, ev, nth]
      refine K.split 58 rfl (fun hg58 => ?_) (fun hg58 => ?_)
      · try replace hg58 := of_decide_eq_true hg58
        refine K.seq_skip ?_ ?_
        · rfl
        try dsimp only [setd, setn, ev, nth, over, cl, eI, eP, eT, eC, List.map, List.append, List.drop, List.take]
        refine K.seq_skip ?_ ?_
        · rfl
        try dsimp only [setd, setn, ev, nth, over, cl, eI, eP, eT, eC, List.map, List.append, List.drop, List.take]
        refine K.seq_skip ?_ ?_
        · rfl
        try dsimp only [setd, setn, ev, nth, over, cl, eI, eP, eT, eC, List.map, List.append, List.drop, List.take]
        refine K.seq_skip ?_ ?_
        · rfl
        try dsimp only [setd, setn, ev, nth, over, cl, eI, eP, eT, eC, List.map, List.append, List.drop, List.take]
        refine K.seq_skip ?_ ?_
        · rfl
        try dsimp only [setd, setn, ev, nth, over, cl, eI, eP, eT, eC, List.map, List.append, List.drop, List.take]
        refine K.seq_pure (K.pick_t rfl) rfl ?_
        dsimp only [setd, setn, ev, nth]
        refine K.seq_nil ?_
        refine K.norm_then ?_
        refine K.cond_true rfl ?_
        refine K.region_lit ?_
        refine K.seq_sil (K.loadA_own ag_117 rfl (K.m0) rfl) rfl ?_
        try dsimp only [setd, setn, ev, nth, over, cl, eI, eP, eT, eC, List.map, List.append, List.drop, List.take]
        refine K.seq_pure (K.move) rfl ?_
        dsimp only [setd, setn, ev, nth]
        refine K.seq_pure (K.build (bl119 _ _ _)) rfl ?_
        try dsimp only [setd, setn, ev, nth, over, cl, eI, eP, eT, eC, List.map, List.append, List.drop, List.take]
        refine K.seq_st (K.store_all sz_119 rfl rfl rfl rfl (K.rp12)) rfl ?_
        try dsimp only [setd, setn, ev, nth, over, cl, eI, eP, eT, eC, List.map, List.append, List.drop, List.take]
        refine K.seq_pure (K.assign) rfl ?_
        dsimp only [setd, setn, ev, nth]
        refine K.seq_nil ?_
        refine K.norm_block ?_
        refine K.norm_then ?_
        refine K.region_lit ?_
        refine K.seq_pure (K.add_i64 rfl rfl (by omega)) rfl ?_
        dsimp only [setd, setn, ev, nth]
        refine K.seq_pure (K.move) rfl ?_
        dsimp only [setd, setn, ev, nth]
        refine K.seq_nil ?_
        have hsk : ¬ ((((bnd st ps).getD a default).1 + (k : Int)) < b1 ∨ (((bnd st ps).getD a default).1 + (k : Int)) > b2) := by omega
        have hno : (loS pf (ownS ps (behS pf st ps f) a deep) ((bnd st ps).getD a default).1 b1 b2 k) = none := Option.not_isSome_iff_eq_none.1 (by simpa using hg58)
        have he : (loS pf (ownS ps (behS pf st ps f) a deep) ((bnd st ps).getD a default).1 b1 b2 (k + 1)) = some ((ownS ps (behS pf st ps f) a deep) (((bnd st ps).getD a default).1 + (k : Int)), (((bnd st ps).getD a default).1 + (k : Int))) := lo_new hsk hno
        exact K.round_endW (L'' := K.mv bm kv50 :: K.blk br 24 [.int .i64 st, .slice A ps.length c] :: K.blk bp 4 [.bool pf] :: K.blk bb 48 [.slice (some ⟨bB, 0, none⟩) ps.length ps.length] :: K.blk bB 52 ((bnd st ps).flatMap K.eP) :: K.blk bk 112 [.map (some bm)] :: K.blk bh 113 [.func (.func 56) #[] #[.pointer (some ⟨br, 0, none⟩), .pointer (some ⟨bk, 0, none⟩), .pointer (some ⟨bl, 0, none⟩)]] :: K.blk bo 120 [.func (.func 52) #[] #[.pointer (some ⟨bh, 0, none⟩), .pointer (some ⟨br, 0, none⟩)]] :: K.blk bl 122 [.func (.func 53) #[] #[.pointer (some ⟨bb, 0, none⟩), .pointer (some ⟨bo, 0, none⟩), .pointer (some ⟨bp, 0, none⟩)]] :: K.blk b8 52 [.int .i64 b1, .int .i64 b2] :: K.blk b9 119 [.int .i64 0, .int .i64 0, .int .i64 0] :: K.blk b11 119 [.int .i64 ((ownS ps (behS pf st ps f) a deep) (((bnd st ps).getD a default).1 + (k : Int)), (((bnd st ps).getD a default).1 + (k : Int))).1.1, .int .i64 ((ownS ps (behS pf st ps f) a deep) (((bnd st ps).getD a default).1 + (k : Int)), (((bnd st ps).getD a default).1 + (k : Int))).1.2, .int .i64 ((ownS ps (behS pf st ps f) a deep) (((bnd st ps).getD a default).1 + (k : Int)), (((bnd st ps).getD a default).1 + (k : Int))).2] :: T) [.bool true, .int .i64 ((k : Int) + 1)] ⟨k + 1, kv50, by rw [he]; rfl, by rw [he]; rfl, hk50, by omega⟩ (by dsimp only [K.nth, intOf]; omega) (List.Sublist.cons _ (List.Sublist.refl _)) (by kernel_rfl)
      try replace hg58 := of_decide_eq_false hg58
      have hr0 : (loS pf (ownS ps (behS pf st ps f) a deep) ((bnd st ps).getD a default).1 b1 b2 k) = some (unR (loS pf (ownS ps (behS pf st ps f) a deep) ((bnd st ps).getD a default).1 b1 b2 k)) := some_un (by simpa using hg58)
      refine K.seq_pure (K.move) rfl ?_
      dsimp only [setd, setn, ev, nth]
      refine K.seq_pure (K.fieldAddr_lit fo_119_0 rfl) rfl ?_
      dsimp only [setd, setn, ev, nth]
      refine K.seq_sil (K.loadA_own ag_117 rfl (K.m12) rfl) rfl ?_
      try dsimp only [setd, setn, ev, nth, over, cl, eI, eP, eT, eC, List.map, List.append, List.drop, List.take]
      refine K.seq_call (K.callv_g (first := [.agg #[.int .i64 ((ownS ps (behS pf st ps f) a deep) (((bnd st ps).getD a default).1 + (k : Int))).1, .int .i64 ((ownS ps (behS pf st ps f) a deep) (((bnd st ps).getD a default).1 + (k : Int))).2]]) (cap := []) rfl cal_55 (fun F w hF hw => c55p (pf := pf) ht53 w)) rfl ?_
      try dsimp only [setd, setn, ev, nth, over, cl, eI, eP, eT, eC, List.map, List.append, List.drop, List.take]
      refine K.seq_pure (K.Pure.eq (K.lss rfl rfl) (show _ = Value.bool (lsB pf ((ownS ps (behS pf st ps f) a deep) (((bnd st ps).getD a default).1 + (k : Int))) (unR (loS pf (ownS ps (behS pf st ps f) a deep) ((bnd st ps).getD a default).1 b1 b2 k)).1) from congrArg Value.bool cmpP_lt)) rfl ?_
      dsimp only [setd, setn, ev, nth]
      refine K.seq_pure (K.pick_f rfl) rfl ?_
      dsimp only [setd, setn, ev, nth]
      refine K.seq_nil ?_
      refine K.norm_then ?_
      refine K.cond rfl (fun ht64 => ?_) (fun ht64 => ?_)
      · try replace ht64 := of_decide_eq_true ht64
        refine K.region_lit ?_
        refine K.seq_sil (K.loadA_own ag_117 rfl (K.m0) rfl) rfl ?_
        try dsimp only [setd, setn, ev, nth, over, cl, eI, eP, eT, eC, List.map, List.append, List.drop, List.take]
        refine K.seq_pure (K.move) rfl ?_
        dsimp only [setd, setn, ev, nth]
        refine K.seq_pure (K.build (bl119 _ _ _)) rfl ?_
        try dsimp only [setd, setn, ev, nth, over, cl, eI, eP, eT, eC, List.map, List.append, List.drop, List.take]
        refine K.seq_st (K.store_all sz_119 rfl rfl rfl rfl (K.rp12)) rfl ?_
        try dsimp only [setd, setn, ev, nth, over, cl, eI, eP, eT, eC, List.map, List.append, List.drop, List.take]
        refine K.seq_pure (K.assign) rfl ?_
        dsimp only [setd, setn, ev, nth]
        refine K.seq_nil ?_
        refine K.norm_block ?_
        refine K.norm_then ?_
        refine K.region_lit ?_
        refine K.seq_pure (K.add_i64 rfl rfl (by omega)) rfl ?_
        dsimp only [setd, setn, ev, nth]
        refine K.seq_pure (K.move) rfl ?_
        dsimp only [setd, setn, ev, nth]
        refine K.seq_nil ?_
        have hsk : ¬ ((((bnd st ps).getD a default).1 + (k : Int)) < b1 ∨ (((bnd st ps).getD a default).1 + (k : Int)) > b2) := by omega
        have hls : lsB pf ((ownS ps (behS pf st ps f) a deep) (((bnd st ps).getD a default).1 + (k : Int))) (unR (loS pf (ownS ps (behS pf st ps f) a deep) ((bnd st ps).getD a default).1 b1 b2 k)).1 = true := by simpa using ht64
        have he : (loS pf (ownS ps (behS pf st ps f) a deep) ((bnd st ps).getD a default).1 b1 b2 (k + 1)) = some ((ownS ps (behS pf st ps f) a deep) (((bnd st ps).getD a default).1 + (k : Int)), (((bnd st ps).getD a default).1 + (k : Int))) := lo_less hsk hr0 hls
        exact K.round_endW (L'' := K.mv bm kv50 :: K.blk br 24 [.int .i64 st, .slice A ps.length c] :: K.blk bp 4 [.bool pf] :: K.blk bb 48 [.slice (some ⟨bB, 0, none⟩) ps.length ps.length] :: K.blk bB 52 ((bnd st ps).flatMap K.eP) :: K.blk bk 112 [.map (some bm)] :: K.blk bh 113 [.func (.func 56) #[] #[.pointer (some ⟨br, 0, none⟩), .pointer (some ⟨bk, 0, none⟩), .pointer (some ⟨bl, 0, none⟩)]] :: K.blk bo 120 [.func (.func 52) #[] #[.pointer (some ⟨bh, 0, none⟩), .pointer (some ⟨br, 0, none⟩)]] :: K.blk bl 122 [.func (.func 53) #[] #[.pointer (some ⟨bb, 0, none⟩), .pointer (some ⟨bo, 0, none⟩), .pointer (some ⟨bp, 0, none⟩)]] :: K.blk b8 52 [.int .i64 b1, .int .i64 b2] :: K.blk b9 119 [.int .i64 0, .int .i64 0, .int .i64 0] :: K.blk b11 119 [.int .i64 ((ownS ps (behS pf st ps f) a deep) (((bnd st ps).getD a default).1 + (k : Int)), (((bnd st ps).getD a default).1 + (k : Int))).1.1, .int .i64 ((ownS ps (behS pf st ps f) a deep) (((bnd st ps).getD a default).1 + (k : Int)), (((bnd st ps).getD a default).1 + (k : Int))).1.2, .int .i64 ((ownS ps (behS pf st ps f) a deep) (((bnd st ps).getD a default).1 + (k : Int)), (((bnd st ps).getD a default).1 + (k : Int))).2] :: T) [.bool true, .int .i64 ((k : Int) + 1)] ⟨k + 1, kv50, by rw [he]; rfl, by rw [he]; rfl, hk50, by omega⟩ (by dsimp only [K.nth, intOf]; omega) (List.Sublist.cons _ (List.Sublist.refl _)) (by kernel_rfl)
      try replace ht64 := of_decide_eq_false ht64
      refine K.skip ?_
      refine K.norm_block ?_
      refine K.norm_then ?_
      refine K.region_lit ?_
      refine K.seq_pure (K.add_i64 rfl rfl (by omega)) rfl ?_
      dsimp only [setd, setn, ev, nth]
      refine K.seq_pure (K.move) rfl ?_
      dsimp only [setd, setn, ev, nth]
      refine K.seq_nil ?_
      have hsk : ¬ ((((bnd st ps).getD a default).1 + (k : Int)) < b1 ∨ (((bnd st ps).getD a default).1 + (k : Int)) > b2) := by omega
      have hls : lsB pf ((ownS ps (behS pf st ps f) a deep) (((bnd st ps).getD a default).1 + (k : Int))) (unR (loS pf (ownS ps (behS pf st ps f) a deep) ((bnd st ps).getD a default).1 b1 b2 k)).1 = false := by simpa using ht64
      have he : (loS pf (ownS ps (behS pf st ps f) a deep) ((bnd st ps).getD a default).1 b1 b2 (k + 1)) = (loS pf (ownS ps (behS pf st ps f) a deep) ((bnd st ps).getD a default).1 b1 b2 k) := by rw [lo_stay hsk hr0 hls]; exact hr0.symm
      exact K.round_endW (L'' := K.mv bm kv50 :: K.blk br 24 [.int .i64 st, .slice A ps.length c] :: K.blk bp 4 [.bool pf] :: K.blk bb 48 [.slice (some ⟨bB, 0, none⟩) ps.length ps.length] :: K.blk bB 52 ((bnd st ps).flatMap K.eP) :: K.blk bk 112 [.map (some bm)] :: K.blk bh 113 [.func (.func 56) #[] #[.pointer (some ⟨br, 0, none⟩), .pointer (some ⟨bk, 0, none⟩), .pointer (some ⟨bl, 0, none⟩)]] :: K.blk bo 120 [.func (.func 52) #[] #[.pointer (some ⟨bh, 0, none⟩), .pointer (some ⟨br, 0, none⟩)]] :: K.blk bl 122 [.func (.func 53) #[] #[.pointer (some ⟨bb, 0, none⟩), .pointer (some ⟨bo, 0, none⟩), .pointer (some ⟨bp, 0, none⟩)]] :: K.blk b8 52 [.int .i64 b1, .int .i64 b2] :: K.blk b9 119 [.int .i64 0, .int .i64 0, .int .i64 0] :: K.blk b11 119 [.int .i64 (unR (loS pf (ownS ps (behS pf st ps f) a deep) ((bnd st ps).getD a default).1 b1 b2 k)).1.1, .int .i64 (unR (loS pf (ownS ps (behS pf st ps f) a deep) ((bnd st ps).getD a default).1 b1 b2 k)).1.2, .int .i64 (unR (loS pf (ownS ps (behS pf st ps f) a deep) ((bnd st ps).getD a default).1 b1 b2 k)).2] :: T) [.bool (loS pf (ownS ps (behS pf st ps f) a deep) ((bnd st ps).getD a default).1 b1 b2 k).isSome, .int .i64 ((k : Int) + 1)] ⟨k + 1, kv50, by rw [he]; rfl, by rw [he], hk50, by omega⟩ (by dsimp only [K.nth, intOf]; omega) (List.Sublist.cons _ (List.Sublist.refl _)) (by kernel_rfl)
    try replace ht53 := of_decide_eq_false ht53
    refine K.skip ?_
    refine K.norm_then ?_
    refine K.seq ?_
    refine K.region_lit ?_
    refine K.seq_pure (K.move) rfl ?_
    dsimp only [setd, setn, ev, nth]
    first | refine K.seq_pure (K.not_d rfl) rfl ?_ | refine K.seq_pure (K.not_ rfl) rfl ?_
    try dsimp only [setd, setn, ev, nth, over, cl, eI, eP, eT, eC, List.map, List.append, List.drop, List.take]
    refine K.seq_pure (K.move) rfl ?_
    dsimp only [setd, setn, ev, nth]
    refine K.split 58 rfl (fun hg58 => ?_) (fun hg58 => ?_)
    · try replace hg58 := of_decide_eq_true hg58
      refine K.seq_skip ?_ ?_
      · rfl
      try dsimp only [setd, setn, ev, nth, over, cl, eI, eP, eT, eC, List.map, List.append, List.drop, List.take]
      refine K.seq_skip ?_ ?_
      · rfl
      try dsimp only [setd, setn, ev, nth, over, cl, eI, eP, eT, eC, List.map, List.append, List.drop, List.take]
      refine K.seq_skip ?_ ?_
      · rfl
      try dsimp only [setd, setn, ev, nth, over, cl, eI, eP, eT, eC, List.map, List.append, List.drop, List.take]
      refine K.seq_skip ?_ ?_
      · rfl
      try dsimp only [setd, setn, ev, nth, over, cl, eI, eP, eT, eC, List.map, List.append, List.drop, List.take]
      refine K.seq_skip ?_ ?_
      · rfl
      try dsimp only [setd, setn, ev, nth, over, cl, eI, eP, eT, eC, List.map, List.append, List.drop, List.take]
      refine K.seq_pure (K.pick_t rfl) rfl ?_
      dsimp only [setd, setn, ev, nth]
      refine K.seq_nil ?_
      refine K.norm_then ?_
      refine K.cond_true rfl ?_
      refine K.region_lit ?_
      refine K.seq_sil (K.loadA_own ag_117 rfl (K.m0) rfl) rfl ?_
      try dsimp only [setd, setn, ev, nth, over, cl, eI, eP, eT, eC, List.map, List.append, List.drop, List.take]
      refine K.seq_pure (K.move) rfl ?_
      dsimp only [setd, setn, ev, nth]
      refine K.seq_pure (K.build (bl119 _ _ _)) rfl ?_
      try dsimp only [setd, setn, ev, nth, over, cl, eI, eP, eT, eC, List.map, List.append, List.drop, List.take]
      refine K.seq_st (K.store_all sz_119 rfl rfl rfl rfl (K.rp12)) rfl ?_
      try dsimp only [setd, setn, ev, nth, over, cl, eI, eP, eT, eC, List.map, List.append, List.drop, List.take]
      refine K.seq_pure (K.assign) rfl ?_
      dsimp only [setd, setn, ev, nth]
      refine K.seq_nil ?_
      refine K.norm_block ?_
      refine K.norm_then ?_
      refine K.region_lit ?_
      refine K.seq_pure (K.add_i64 rfl rfl (by omega)) rfl ?_
      dsimp only [setd, setn, ev, nth]
      refine K.seq_pure (K.move) rfl ?_
      dsimp only [setd, setn, ev, nth]
      refine K.seq_nil ?_
      have hsk : ¬ ((((bnd st ps).getD a default).1 + (k : Int)) < b1 ∨ (((bnd st ps).getD a default).1 + (k : Int)) > b2) := by omega
      have hno : (loS pf (ownS ps (behS pf st ps f) a deep) ((bnd st ps).getD a default).1 b1 b2 k) = none := Option.not_isSome_iff_eq_none.1 (by simpa using hg58)
      have he : (loS pf (ownS ps (behS pf st ps f) a deep) ((bnd st ps).getD a default).1 b1 b2 (k + 1)) = some ((ownS ps (behS pf st ps f) a deep) (((bnd st ps).getD a default).1 + (k : Int)), (((bnd st ps).getD a default).1 + (k : Int))) := lo_new hsk hno
      exact K.round_endW (L'' := K.mv bm kv50 :: K.blk br 24 [.int .i64 st, .slice A ps.length c] :: K.blk bp 4 [.bool pf] :: K.blk bb 48 [.slice (some ⟨bB, 0, none⟩) ps.length ps.length] :: K.blk bB 52 ((bnd st ps).flatMap K.eP) :: K.blk bk 112 [.map (some bm)] :: K.blk bh 113 [.func (.func 56) #[] #[.pointer (some ⟨br, 0, none⟩), .pointer (some ⟨bk, 0, none⟩), .pointer (some ⟨bl, 0, none⟩)]] :: K.blk bo 120 [.func (.func 52) #[] #[.pointer (some ⟨bh, 0, none⟩), .pointer (some ⟨br, 0, none⟩)]] :: K.blk bl 122 [.func (.func 53) #[] #[.pointer (some ⟨bb, 0, none⟩), .pointer (some ⟨bo, 0, none⟩), .pointer (some ⟨bp, 0, none⟩)]] :: K.blk b8 52 [.int .i64 b1, .int .i64 b2] :: K.blk b9 119 [.int .i64 0, .int .i64 0, .int .i64 0] :: K.blk b11 119 [.int .i64 ((ownS ps (behS pf st ps f) a deep) (((bnd st ps).getD a default).1 + (k : Int)), (((bnd st ps).getD a default).1 + (k : Int))).1.1, .int .i64 ((ownS ps (behS pf st ps f) a deep) (((bnd st ps).getD a default).1 + (k : Int)), (((bnd st ps).getD a default).1 + (k : Int))).1.2, .int .i64 ((ownS ps (behS pf st ps f) a deep) (((bnd st ps).getD a default).1 + (k : Int)), (((bnd st ps).getD a default).1 + (k : Int))).2] :: T) [.bool true, .int .i64 ((k : Int) + 1)] ⟨k + 1, kv50, by rw [he]; rfl, by rw [he]; rfl, hk50, by omega⟩ (by dsimp only [K.nth, intOf]; omega) (List.Sublist.cons _ (List.Sublist.refl _)) (by kernel_rfl)
    try replace hg58 := of_decide_eq_false hg58
    have hr0 : (loS pf (ownS ps (behS pf st ps f) a deep) ((bnd st ps).getD a default).1 b1 b2 k) = some (unR (loS pf (ownS ps (behS pf st ps f) a deep) ((bnd st ps).getD a default).1 b1 b2 k)) := some_un (by simpa using hg58)
    refine K.seq_pure (K.move) rfl ?_
    dsimp only [setd, setn, ev, nth]
    refine K.seq_pure (K.fieldAddr_lit fo_119_0 rfl) rfl ?_
    dsimp only [setd, setn, ev, nth]
    refine K.seq_sil (K.loadA_own ag_117 rfl (K.m12) rfl) rfl ?_
    try dsimp only [setd, setn, ev, nth, over, cl, eI, eP, eT, eC, List.map, List.append, List.drop, List.take]
    refine K.seq_call (K.callv_g (first := [.agg #[.int .i64 ((ownS ps (behS pf st ps f) a deep) (((bnd st ps).getD a default).1 + (k : Int))).1, .int .i64 ((ownS ps (behS pf st ps f) a deep) (((bnd st ps).getD a default).1 + (k : Int))).2]]) (cap := []) rfl cal_54 (fun F w hF hw => c54p (pf := pf) (by simpa using ht53) w)) rfl ?_
    try dsimp only [setd, setn, ev, nth, over, cl, eI, eP, eT, eC, List.map, List.append, List.drop, List.take]
    refine K.seq_pure (K.Pure.eq (K.lss rfl rfl) (show _ = Value.bool (lsB pf ((ownS ps (behS pf st ps f) a deep) (((bnd st ps).getD a default).1 + (k : Int))) (unR (loS pf (ownS ps (behS pf st ps f) a deep) ((bnd st ps).getD a default).1 b1 b2 k)).1) from congrArg Value.bool cmpP_lt)) rfl ?_
    dsimp only [setd, setn, ev, nth]
    refine K.seq_pure (K.pick_f rfl) rfl ?_
    dsimp only [setd, setn, ev, nth]
    refine K.seq_nil ?_
    refine K.norm_then ?_
    refine K.cond rfl (fun ht64 => ?_) (fun ht64 => ?_)
    · try replace ht64 := of_decide_eq_true ht64
      refine K.region_lit ?_
      refine K.seq_sil (K.loadA_own ag_117 rfl (K.m0) rfl) rfl ?_
      try dsimp only [setd, setn, ev, nth, over, cl, eI, eP, eT, eC, List.map, List.append, List.drop, List.take]
      refine K.seq_pure (K.move) rfl ?_
      dsimp only [setd, setn, ev, nth]
      refine K.seq_pure (K.build (bl119 _ _ _)) rfl ?_
      try dsimp only [setd, setn, ev, nth, over, cl, eI, eP, eT, eC, List.map, List.append, List.drop, List.take]
      refine K.seq_st (K.store_all sz_119 rfl rfl rfl rfl (K.rp12)) rfl ?_
      try dsimp only [setd, setn, ev, nth, over, cl, eI, eP, eT, eC, List.map, List.append, List.drop, List.take]
      refine K.seq_pure (K.assign) rfl ?_
      dsimp only [setd, setn, ev, nth]
      refine K.seq_nil ?_
      refine K.norm_block ?_
      refine K.norm_then ?_
      refine K.region_lit ?_
      refine K.seq_pure (K.add_i64 rfl rfl (by omega)) rfl ?_
      dsimp only [setd, setn, ev, nth]
      refine K.seq_pure (K.move) rfl ?_
      dsimp only [setd, setn, ev, nth]
      refine K.seq_nil ?_
      have hsk : ¬ ((((bnd st ps).getD a default).1 + (k : Int)) < b1 ∨ (((bnd st ps).getD a default).1 + (k : Int)) > b2) := by omega
      have hls : lsB pf ((ownS ps (behS pf st ps f) a deep) (((bnd st ps).getD a default).1 + (k : Int))) (unR (loS pf (ownS ps (behS pf st ps f) a deep) ((bnd st ps).getD a default).1 b1 b2 k)).1 = true := by simpa using ht64
      have he : (loS pf (ownS ps (behS pf st ps f) a deep) ((bnd st ps).getD a default).1 b1 b2 (k + 1)) = some ((ownS ps (behS pf st ps f) a deep) (((bnd st ps).getD a default).1 + (k : Int)), (((bnd st ps).getD a default).1 + (k : Int))) := lo_less hsk hr0 hls
      exact K.round_endW (L'' := K.mv bm kv50 :: K.blk br 24 [.int .i64 st, .slice A ps.length c] :: K.blk bp 4 [.bool pf] :: K.blk bb 48 [.slice (some ⟨bB, 0, none⟩) ps.length ps.length] :: K.blk bB 52 ((bnd st ps).flatMap K.eP) :: K.blk bk 112 [.map (some bm)] :: K.blk bh 113 [.func (.func 56) #[] #[.pointer (some ⟨br, 0, none⟩), .pointer (some ⟨bk, 0, none⟩), .pointer (some ⟨bl, 0, none⟩)]] :: K.blk bo 120 [.func (.func 52) #[] #[.pointer (some ⟨bh, 0, none⟩), .pointer (some ⟨br, 0, none⟩)]] :: K.blk bl 122 [.func (.func 53) #[] #[.pointer (some ⟨bb, 0, none⟩), .pointer (some ⟨bo, 0, none⟩), .pointer (some ⟨bp, 0, none⟩)]] :: K.blk b8 52 [.int .i64 b1, .int .i64 b2] :: K.blk b9 119 [.int .i64 0, .int .i64 0, .int .i64 0] :: K.blk b11 119 [.int .i64 ((ownS ps (behS pf st ps f) a deep) (((bnd st ps).getD a default).1 + (k : Int)), (((bnd st ps).getD a default).1 + (k : Int))).1.1, .int .i64 ((ownS ps (behS pf st ps f) a deep) (((bnd st ps).getD a default).1 + (k : Int)), (((bnd st ps).getD a default).1 + (k : Int))).1.2, .int .i64 ((ownS ps (behS pf st ps f) a deep) (((bnd st ps).getD a default).1 + (k : Int)), (((bnd st ps).getD a default).1 + (k : Int))).2] :: T) [.bool true, .int .i64 ((k : Int) + 1)] ⟨k + 1, kv50, by rw [he]; rfl, by rw [he]; rfl, hk50, by omega⟩ (by dsimp only [K.nth, intOf]; omega) (List.Sublist.cons _ (List.Sublist.refl _)) (by kernel_rfl)
    try replace ht64 := of_decide_eq_false ht64
    refine K.skip ?_
    refine K.norm_block ?_
    refine K.norm_then ?_
    refine K.region_lit ?_
    refine K.seq_pure (K.add_i64 rfl rfl (by omega)) rfl ?_
    dsimp only [setd, setn, ev, nth]
    refine K.seq_pure (K.move) rfl ?_
    dsimp only [setd, setn, ev, nth]
    refine K.seq_nil ?_
    have hsk : ¬ ((((bnd st ps).getD a default).1 + (k : Int)) < b1 ∨ (((bnd st ps).getD a default).1 + (k : Int)) > b2) := by omega
    have hls : lsB pf ((ownS ps (behS pf st ps f) a deep) (((bnd st ps).getD a default).1 + (k : Int))) (unR (loS pf (ownS ps (behS pf st ps f) a deep) ((bnd st ps).getD a default).1 b1 b2 k)).1 = false := by simpa using ht64
    have he : (loS pf (ownS ps (behS pf st ps f) a deep) ((bnd st ps).getD a default).1 b1 b2 (k + 1)) = (loS pf (ownS ps (behS pf st ps f) a deep) ((bnd st ps).getD a default).1 b1 b2 k) := by rw [lo_stay hsk hr0 hls]; exact hr0.symm
    exact K.round_endW (L'' := K.mv bm kv50 :: K.blk br 24 [.int .i64 st, .slice A ps.length c] :: K.blk bp 4 [.bool pf] :: K.blk bb 48 [.slice (some ⟨bB, 0, none⟩) ps.length ps.length] :: K.blk bB 52 ((bnd st ps).flatMap K.eP) :: K.blk bk 112 [.map (some bm)] :: K.blk bh 113 [.func (.func 56) #[] #[.pointer (some ⟨br, 0, none⟩), .pointer (some ⟨bk, 0, none⟩), .pointer (some ⟨bl, 0, none⟩)]] :: K.blk bo 120 [.func (.func 52) #[] #[.pointer (some ⟨bh, 0, none⟩), .pointer (some ⟨br, 0, none⟩)]] :: K.blk bl 122 [.func (.func 53) #[] #[.pointer (some ⟨bb, 0, none⟩), .pointer (some ⟨bo, 0, none⟩), .pointer (some ⟨bp, 0, none⟩)]] :: K.blk b8 52 [.int .i64 b1, .int .i64 b2] :: K.blk b9 119 [.int .i64 0, .int .i64 0, .int .i64 0] :: K.blk b11 119 [.int .i64 (unR (loS pf (ownS ps (behS pf st ps f) a deep) ((bnd st ps).getD a default).1 b1 b2 k)).1.1, .int .i64 (unR (loS pf (ownS ps (behS pf st ps f) a deep) ((bnd st ps).getD a default).1 b1 b2 k)).1.2, .int .i64 (unR (loS pf (ownS ps (behS pf st ps f) a deep) ((bnd st ps).getD a default).1 b1 b2 k)).2] :: T) [.bool (loS pf (ownS ps (behS pf st ps f) a deep) ((bnd st ps).getD a default).1 b1 b2 k).isSome, .int .i64 ((k : Int) + 1)] ⟨k + 1, kv50, by rw [he]; rfl, by rw [he], hk50, by omega⟩ (by dsimp only [K.nth, intOf]; omega) (List.Sublist.cons _ (List.Sublist.refl _)) (by kernel_rfl)
  try replace ht29 := of_decide_eq_false ht29
  refine K.exit ?_
  refine K.exit_then ?_
  refine K.exit_then ?_
  refine K.exit_here ?_
  refine K.norm_then ?_
  refine K.seq ?_
  refine K.region_lit ?_
  refine K.seq_sil (K.loadA_own ag_119 rfl (K.m11) rfl) rfl ?_
  try dsimp only [setd, setn, ev, nth, over, cl, eI, eP, eT, eC, List.map, List.append, List.drop, List.take]
  refine K.seq_st (K.store_all sz_119 rfl rfl rfl rfl (K.rp10)) rfl ?_
  try dsimp only [setd, setn, ev, nth, over, cl, eI, eP, eT, eC, List.map, List.append, List.drop, List.take]
  refine K.seq_nil ?_
  refine K.norm_then ?_
  refine K.ret ?_
  refine R.ng_ret ?_
  refine K.end_ret (fun w hw => K.res_c rfl rfl (K.run_cellA ag_119 rfl (K.m10) rfl w hw)) ?_
  have e0 : k = (((bnd st ps).getD a default).2 - ((bnd st ps).getD a default).1 + 1).toNat := by omega
  subst e0
  exact K.retsU (lowS pf st ps (behS pf st ps f) a deep b1 b2, kv1) ⟨rfl, hk1⟩ rfl (List.Sublist.cons_cons _ (List.Sublist.cons_cons _ (List.Sublist.cons_cons _ (List.Sublist.cons_cons _ (List.Sublist.cons_cons _ (List.Sublist.cons_cons _ (List.Sublist.cons_cons _ (List.Sublist.cons_cons _ (List.Sublist.cons_cons _ (List.Sublist.cons _ (List.Sublist.cons _ (List.Sublist.cons _ (List.Sublist.refl _)))))))))))))

set_option maxRecDepth 100000 in
set_option maxHeartbeats 4000000 in
theorem c56_0 {pf : Bool} {st : Int} {ps : List CvT} {A : Option Addr} {c br bp bb bB bk bm bh bo bl : Nat} {w0 : World} (hR : K.Rd w0 A 3 eC ps) (g : Good st ps) {a : Nat} {h : Int} {kvs : List (Value × Value)} {T : List K.Chunk} {w : World} (hst : K.St w0 (K.mv bm kvs :: K.blk br 24 [.int .i64 st, .slice A ps.length c] :: K.blk bp 4 [.bool pf] :: K.blk bb 48 [.slice (some ⟨bB, 0, none⟩) ps.length ps.length] :: K.blk bB 52 ((bnd st ps).flatMap K.eP) :: K.blk bk 112 [.map (some bm)] :: K.blk bh 113 [.func (.func 56) #[] #[.pointer (some ⟨br, 0, none⟩), .pointer (some ⟨bk, 0, none⟩), .pointer (some ⟨bl, 0, none⟩)]] :: K.blk bo 120 [.func (.func 52) #[] #[.pointer (some ⟨bh, 0, none⟩), .pointer (some ⟨br, 0, none⟩)]] :: K.blk bl 122 [.func (.func 53) #[] #[.pointer (some ⟨bb, 0, none⟩), .pointer (some ⟨bo, 0, none⟩), .pointer (some ⟨bp, 0, none⟩)]] :: T) w) (hkn : KnOk pf st ps kvs) (hf : a + 0 + 1 = ps.length) (hh : 0 ≤ h ∧ h ≤ 9000) :
    Calls Try.prog 56 [.agg #[.int .i64 (a : Int), .int .i64 h], .pointer (some ⟨br, 0, none⟩), .pointer (some ⟨bk, 0, none⟩), .pointer (some ⟨bl, 0, none⟩)].toArray w (K.RetU (fun z : RsT × List (Value × Value) => z.1 = behS pf st ps 0 a h ∧ KnOk pf st ps z.2) (fun z => .agg #[.int .i64 z.1.1.1, .int .i64 z.1.1.2, .int .i64 z.1.2]) w0 (fun z => K.mv bm z.2 :: K.blk br 24 [.int .i64 st, .slice A ps.length c] :: K.blk bp 4 [.bool pf] :: K.blk bb 48 [.slice (some ⟨bB, 0, none⟩) ps.length ps.length] :: K.blk bB 52 ((bnd st ps).flatMap K.eP) :: K.blk bk 112 [.map (some bm)] :: K.blk bh 113 [.func (.func 56) #[] #[.pointer (some ⟨br, 0, none⟩), .pointer (some ⟨bk, 0, none⟩), .pointer (some ⟨bl, 0, none⟩)]] :: K.blk bo 120 [.func (.func 52) #[] #[.pointer (some ⟨bh, 0, none⟩), .pointer (some ⟨br, 0, none⟩)]] :: K.blk bl 122 [.func (.func 53) #[] #[.pointer (some ⟨bb, 0, none⟩), .pointer (some ⟨bo, 0, none⟩), .pointer (some ⟨bp, 0, none⟩)]] :: T)) := by
  have hgn := g.n
  have ha : a < ps.length := by omega
  refine K.enterU (args := [.agg #[.int .i64 (a : Int), .int .i64 h], .pointer (some ⟨br, 0, none⟩), .pointer (some ⟨bk, 0, none⟩), .pointer (some ⟨bl, 0, none⟩)]) Try.func56 rfl (n := 51) rfl hst ?_
  simp only [List.replicate, List.cons_append, List.nil_append]
  refine K.seq ?_
  refine K.region_lit ?_
  refine K.seq_new (K.box) rfl ?_
  intro b4
  try dsimp only [setd, setn, ev, nth, over, cl, eI, eP, eT, eC, List.map, List.append, List.drop, List.take]
  refine K.seq_new (K.alloc zr_119) rfl ?_
  intro b5
  try dsimp only [setd, setn, ev, nth, over, cl, eI, eP, eT, eC, List.map, List.append, List.drop, List.take]
  refine K.seq_nil ?_
  refine K.norm_then ?_
  refine K.seq ?_
  refine K.seq ?_
  refine K.region_lit ?_
  refine K.seq_pure (K.fieldAddr_lit fo_115_0 rfl) rfl ?_
  dsimp only [setd, setn, ev, nth]
  refine K.seq_sil (K.load1_own one_3 rfl (K.m1) rfl) rfl ?_
  try dsimp only [setd, setn, ev, nth, over, cl, eI, eP, eT, eC, List.map, List.append, List.drop, List.take]
  refine K.seq_pure (K.fieldAddr_lit fo_24_1 rfl) rfl ?_
  dsimp only [setd, setn, ev, nth]
  refine K.seq_sil (K.load1_own one_22 rfl (K.m3) rfl) rfl ?_
  try dsimp only [setd, setn, ev, nth, over, cl, eI, eP, eT, eC, List.map, List.append, List.drop, List.take]
  refine K.seq_pure (K.len_sl sl_22 rfl) rfl ?_
  dsimp only [setd, setn, ev, nth]
  refine K.seq_pure (K.sub_i64 rfl rfl (by omega)) rfl ?_
  dsimp only [setd, setn, ev, nth]
  refine K.seq_pure (K.Pure.eq (K.eql rfl rfl) (show _ = Value.bool true from congrArg Value.bool (decide_eq_true (by omega)))) rfl ?_
  dsimp only [setd, setn, ev, nth]
  refine K.seq_nil ?_
  refine K.norm_then ?_
  refine K.cond_true rfl ?_
  refine K.seq ?_
  refine K.region_lit ?_
  refine K.seq_pure (K.build (bl119z)) rfl ?_
  try dsimp only [setd, setn, ev, nth, over, cl, eI, eP, eT, eC, List.map, List.append, List.drop, List.take]
  refine K.seq_st (K.store_all sz_119 rfl rfl rfl rfl (K.rp0)) rfl ?_
  try dsimp only [setd, setn, ev, nth, over, cl, eI, eP, eT, eC, List.map, List.append, List.drop, List.take]
  refine K.seq_nil ?_
  refine K.norm_then ?_
  refine K.ret ?_
  refine K.ret_then ?_
  refine K.end_ret (fun w hw => K.res_c rfl rfl (K.run_cellA ag_119 rfl (K.m0) rfl w hw)) ?_
  exact K.retsU (((0, 0), 0), kvs) ⟨rfl, hkn⟩ rfl (List.Sublist.cons _ (List.Sublist.cons _ (List.Sublist.refl _)))

set_option maxRecDepth 100000 in
set_option maxHeartbeats 4000000 in
theorem c56_s {pf : Bool} {st : Int} {ps : List CvT} {A : Option Addr} {c br bp bb bB bk bm bh bo bl : Nat} {w0 : World} (hR : K.Rd w0 A 3 eC ps) (g : Good st ps) {f : Nat} (IH : Go53 pf st ps A c br bp bb bB bk bm bh bo bl f w0) {a : Nat} {h : Int} {kvs : List (Value × Value)} {T : List K.Chunk} {w : World} (hst : K.St w0 (K.mv bm kvs :: K.blk br 24 [.int .i64 st, .slice A ps.length c] :: K.blk bp 4 [.bool pf] :: K.blk bb 48 [.slice (some ⟨bB, 0, none⟩) ps.length ps.length] :: K.blk bB 52 ((bnd st ps).flatMap K.eP) :: K.blk bk 112 [.map (some bm)] :: K.blk bh 113 [.func (.func 56) #[] #[.pointer (some ⟨br, 0, none⟩), .pointer (some ⟨bk, 0, none⟩), .pointer (some ⟨bl, 0, none⟩)]] :: K.blk bo 120 [.func (.func 52) #[] #[.pointer (some ⟨bh, 0, none⟩), .pointer (some ⟨br, 0, none⟩)]] :: K.blk bl 122 [.func (.func 53) #[] #[.pointer (some ⟨bb, 0, none⟩), .pointer (some ⟨bo, 0, none⟩), .pointer (some ⟨bp, 0, none⟩)]] :: T) w) (hkn : KnOk pf st ps kvs) (hf : a + f + 1 + 1 = ps.length) (hh : 0 ≤ h ∧ h ≤ 9000) :
    Calls Try.prog 56 [.agg #[.int .i64 (a : Int), .int .i64 h], .pointer (some ⟨br, 0, none⟩), .pointer (some ⟨bk, 0, none⟩), .pointer (some ⟨bl, 0, none⟩)].toArray w (K.RetU (fun z : RsT × List (Value × Value) => z.1 = behS pf st ps (f + 1) a h ∧ KnOk pf st ps z.2) (fun z => .agg #[.int .i64 z.1.1.1, .int .i64 z.1.1.2, .int .i64 z.1.2]) w0 (fun z => K.mv bm z.2 :: K.blk br 24 [.int .i64 st, .slice A ps.length c] :: K.blk bp 4 [.bool pf] :: K.blk bb 48 [.slice (some ⟨bB, 0, none⟩) ps.length ps.length] :: K.blk bB 52 ((bnd st ps).flatMap K.eP) :: K.blk bk 112 [.map (some bm)] :: K.blk bh 113 [.func (.func 56) #[] #[.pointer (some ⟨br, 0, none⟩), .pointer (some ⟨bk, 0, none⟩), .pointer (some ⟨bl, 0, none⟩)]] :: K.blk bo 120 [.func (.func 52) #[] #[.pointer (some ⟨bh, 0, none⟩), .pointer (some ⟨br, 0, none⟩)]] :: K.blk bl 122 [.func (.func 53) #[] #[.pointer (some ⟨bb, 0, none⟩), .pointer (some ⟨bo, 0, none⟩), .pointer (some ⟨bp, 0, none⟩)]] :: T)) := by
  have hgn := g.n
  have ha : a < ps.length := by omega
  have hpa := g.p a ha
  have hgs := g.s
  refine K.enterU (args := [.agg #[.int .i64 (a : Int), .int .i64 h], .pointer (some ⟨br, 0, none⟩), .pointer (some ⟨bk, 0, none⟩), .pointer (some ⟨bl, 0, none⟩)]) Try.func56 rfl (n := 51) rfl hst ?_
  simp only [List.replicate, List.cons_append, List.nil_append]
  refine K.seq ?_
  refine K.region_lit ?_
  refine K.seq_new (K.box) rfl ?_
  intro b4
  try dsimp only [setd, setn, ev, nth, over, cl, eI, eP, eT, eC, List.map, List.append, List.drop, List.take]
  refine K.seq_new (K.alloc zr_119) rfl ?_
  intro b5
  try dsimp only [setd, setn, ev, nth, over, cl, eI, eP, eT, eC, List.map, List.append, List.drop, List.take]
  refine K.seq_nil ?_
  refine K.norm_then ?_
  refine K.seq ?_
  refine K.seq ?_
  refine K.region_lit ?_
  refine K.seq_pure (K.fieldAddr_lit fo_115_0 rfl) rfl ?_
  dsimp only [setd, setn, ev, nth]
  refine K.seq_sil (K.load1_own one_3 rfl (K.m1) rfl) rfl ?_
  try dsimp only [setd, setn, ev, nth, over, cl, eI, eP, eT, eC, List.map, List.append, List.drop, List.take]
  refine K.seq_pure (K.fieldAddr_lit fo_24_1 rfl) rfl ?_
  dsimp only [setd, setn, ev, nth]
  refine K.seq_sil (K.load1_own one_22 rfl (K.m3) rfl) rfl ?_
  try dsimp only [setd, setn, ev, nth, over, cl, eI, eP, eT, eC, List.map, List.append, List.drop, List.take]
  refine K.seq_pure (K.len_sl sl_22 rfl) rfl ?_
  dsimp only [setd, setn, ev, nth]
  refine K.seq_pure (K.sub_i64 rfl rfl (by omega)) rfl ?_
  dsimp only [setd, setn, ev, nth]
  refine K.seq_pure (K.Pure.eq (K.eql rfl rfl) (show _ = Value.bool false from congrArg Value.bool (decide_eq_false (by omega)))) rfl ?_
  dsimp only [setd, setn, ev, nth]
  refine K.seq_nil ?_
  refine K.norm_then ?_
  refine K.cond_false rfl ?_
  refine K.skip ?_
  refine K.norm_then ?_
  refine K.seq ?_
  refine K.region_lit ?_
  refine K.seq_sil (K.load1_own one_112 rfl (K.m7) rfl) rfl ?_
  try dsimp only [setd, setn, ev, nth, over, cl, eI, eP, eT, eC, List.map, List.append, List.drop, List.take]
  refine K.seq_sil (K.loadA_own ag_115 rfl (K.m1) rfl) rfl ?_
  try dsimp only [setd, setn, ev, nth, over, cl, eI, eP, eT, eC, List.map, List.append, List.drop, List.take]
  refine K.seq_loud (K.lookupOk_mv mapZ rfl rfl (K.m2) (keyC (by omega) (by omega)) (kn_keys hgn.2 hkn)) rfl ?_
  rintro ⟨n19, ok19⟩ hn19
  try dsimp only [setd, setn, ev, nth, over, cl, eI, eP, eT, eC, List.map, List.append, List.drop, List.take]
  obtain ⟨r19, hr19, hrok⟩ := kn_look (a := a) (f := f + 1) (h := h) hkn (by omega) hn19
  dsimp only at hr19
  subst hr19
  try dsimp only [setd, setn, ev, nth, over, cl, eI, eP, eT, eC, List.map, List.append, List.drop, List.take]
  refine K.seq_pure (K.move) rfl ?_
  dsimp only [setd, setn, ev, nth]
  refine K.seq_pure (K.extract rfl rfl) rfl ?_
  dsimp only [setd, setn, ev, nth]
  refine K.seq_pure (K.extract rfl rfl) rfl ?_
  dsimp only [setd, setn, ev, nth]
  refine K.seq_new (K.alloc zr_119) rfl ?_
  intro b6
  try dsimp only [setd, setn, ev, nth, over, cl, eI, eP, eT, eC, List.map, List.append, List.drop, List.take]
  refine K.seq_st (K.store_all sz_119 rfl rfl rfl rfl (K.rp0)) rfl ?_
  try dsimp only [setd, setn, ev, nth, over, cl, eI, eP, eT, eC, List.map, List.append, List.drop, List.take]
  refine K.seq_pure (K.assign) rfl ?_
  dsimp only [setd, setn, ev, nth]
  refine K.seq_nil ?_
  refine K.norm_then ?_
  refine K.seq ?_
  refine K.seq ?_
  refine K.region_lit ?_
  refine K.seq_pure (K.move) rfl ?_
  dsimp only [setd, setn, ev, nth]
  first | refine K.seq_pure (K.not_d rfl) rfl ?_ | refine K.seq_pure (K.not_ rfl) rfl ?_
  try dsimp only [setd, setn, ev, nth, over, cl, eI, eP, eT, eC, List.map, List.append, List.drop, List.take]
  refine K.seq_nil ?_
  refine K.norm_then ?_
  refine K.cond rfl (fun ht23 => ?_) (fun ht23 => ?_)
  · try replace ht23 := of_decide_eq_true ht23
    refine K.seq ?_
    refine K.permH (L' := _ :: _ :: _ :: _ :: _ :: _ :: _ :: _ :: _ :: _ :: _ :: _ :: _) (List.Perm.trans (List.perm_middle (l₁ := [_, _, _])) (List.Perm.cons _ (List.Perm.trans (List.perm_middle (l₁ := [_, _, _])) (List.Perm.cons _ (List.Perm.trans (List.perm_middle (l₁ := [_, _, _])) (List.Perm.cons _ (List.Perm.trans (List.perm_middle (l₁ := [_, _, _])) (List.Perm.cons _ (List.Perm.trans (List.perm_middle (l₁ := [_, _, _])) (List.Perm.cons _ (List.Perm.trans (List.perm_middle (l₁ := [_, _, _])) (List.Perm.cons _ (List.Perm.trans (List.perm_middle (l₁ := [_, _, _])) (List.Perm.cons _ (List.Perm.trans (List.perm_middle (l₁ := [_, _, _])) (List.Perm.cons _ (List.Perm.trans (List.perm_middle (l₁ := [_, _, _])) (List.Perm.cons _ (List.Perm.trans (List.perm_middle (l₁ := [_, _])) (List.Perm.cons _ (List.Perm.trans (List.perm_middle (l₁ := [_])) (List.Perm.cons _ (List.Perm.refl _))))))))))))))))))))))) ?_
    refine K.draw_drop 1 [27] Try_mixed ?_
    refine K.d_mem 0 rfl (K.load1_own one_122 rfl (K.m7) rfl) (fun _ h => K.tl h) (by kernel_rfl) (by kernel_rfl) rfl ?_
    try dsimp only [setd, setn, ev, nth, over, cl, eI, eP, eT, eC, List.map, List.append, List.drop, List.take]
    refine K.d_pure 1 rfl (K.fieldAddr_lit fo_115_0 rfl) (by kernel_rfl) rfl ?_
    dsimp only [setd, setn, ev, nth]
    refine K.d_mem 2 rfl (K.load1_own one_3 rfl (K.m8) rfl) (fun _ h => K.tl h) (by kernel_rfl) (by kernel_rfl) rfl ?_
    try dsimp only [setd, setn, ev, nth, over, cl, eI, eP, eT, eC, List.map, List.append, List.drop, List.take]
    refine K.d_pure 3 rfl (K.add_i64 rfl rfl (by omega)) (by kernel_rfl) rfl ?_
    dsimp only [setd, setn, ev, nth]
    refine K.d_pure 4 rfl (K.fieldAddr_lit fo_24_1 rfl) (by kernel_rfl) rfl ?_
    dsimp only [setd, setn, ev, nth]
    refine K.d_mem 5 rfl (K.load1_own one_22 rfl (K.m0) rfl) (fun _ h => K.tl h) (by kernel_rfl) (by kernel_rfl) rfl ?_
    try dsimp only [setd, setn, ev, nth, over, cl, eI, eP, eT, eC, List.map, List.append, List.drop, List.take]
    refine K.d_pure 6 rfl (K.fieldAddr_lit fo_115_0 rfl) (by kernel_rfl) rfl ?_
    dsimp only [setd, setn, ev, nth]
    refine K.d_mem 7 rfl (K.load1_own one_3 rfl (K.m8) rfl) (fun _ h => K.tl h) (by kernel_rfl) (by kernel_rfl) rfl ?_
    try dsimp only [setd, setn, ev, nth, over, cl, eI, eP, eT, eC, List.map, List.append, List.drop, List.take]
    refine K.d_ix (M := []) 8 _ rfl hR.sl sl_22 rfl rfl rfl (by omega) (by kernel_rfl) rfl ?_
    intro p32 hp32
    try dsimp only [setd, setn, ev, nth, over, cl, eI, eP, eT, eC, List.map, List.append, List.drop, List.take]
    refine K.d_pure 9 rfl (K.fieldAddr fo_45_0 rfl) (by kernel_rfl) rfl ?_
    dsimp only [setd, setn, ev, nth]
    refine K.d_mem 10 rfl (K.load1 one_3 rfl ((K.PtrL.fld hp32 (k := 0)).any)) (fun _ h => K.tl h) (by kernel_rfl) (by kernel_rfl) rfl ?_
    try dsimp only [setd, setn, ev, nth, over, cl, eI, eP, eT, eC, List.map, List.append, List.drop, List.take]
    refine K.d_pure 11 rfl (K.fieldAddr_lit fo_115_1 rfl) (by kernel_rfl) rfl ?_
    dsimp only [setd, setn, ev, nth]
    refine K.d_mem 12 rfl (K.load1_own one_3 rfl (K.m8) rfl) (fun _ h => K.tl h) (by kernel_rfl) (by kernel_rfl) rfl ?_
    try dsimp only [setd, setn, ev, nth, over, cl, eI, eP, eT, eC, List.map, List.append, List.drop, List.take]
    refine K.d_pure 13 rfl (K.sub_i64 rfl rfl (by omega)) (by kernel_rfl) rfl ?_
    dsimp only [setd, setn, ev, nth]
    refine K.d_pure 14 rfl (K.max_int rfl rfl) (by kernel_rfl) rfl ?_
    dsimp only [setd, setn, ev, nth]
    refine K.d_pure 15 rfl (K.fieldAddr_lit fo_115_1 rfl) (by kernel_rfl) rfl ?_
    dsimp only [setd, setn, ev, nth]
    refine K.d_mem 16 rfl (K.load1_own one_3 rfl (K.m8) rfl) (fun _ h => K.tl h) (by kernel_rfl) (by kernel_rfl) rfl ?_
    try dsimp only [setd, setn, ev, nth, over, cl, eI, eP, eT, eC, List.map, List.append, List.drop, List.take]
    refine K.d_pure 17 rfl (K.fieldAddr_lit fo_24_0 rfl) (by kernel_rfl) rfl ?_
    dsimp only [setd, setn, ev, nth]
    refine K.d_mem 18 rfl (K.load1_own one_3 rfl (K.m0) rfl) (fun _ h => K.tl h) (by kernel_rfl) (by kernel_rfl) rfl ?_
    try dsimp only [setd, setn, ev, nth, over, cl, eI, eP, eT, eC, List.map, List.append, List.drop, List.take]
    refine K.d_pure 19 rfl (K.sub_i64 rfl rfl (by omega)) (by kernel_rfl) rfl ?_
    dsimp only [setd, setn, ev, nth]
    refine K.d_pure 20 rfl (K.fieldAddr_lit fo_115_1 rfl) (by kernel_rfl) rfl ?_
    dsimp only [setd, setn, ev, nth]
    refine K.d_mem 21 rfl (K.load1_own one_3 rfl (K.m8) rfl) (fun _ h => K.tl h) (by kernel_rfl) (by kernel_rfl) rfl ?_
    try dsimp only [setd, setn, ev, nth, over, cl, eI, eP, eT, eC, List.map, List.append, List.drop, List.take]
    refine K.d_pure 22 rfl (K.fieldAddr_lit fo_24_0 rfl) (by kernel_rfl) rfl ?_
    dsimp only [setd, setn, ev, nth]
    refine K.d_mem 23 rfl (K.load1_own one_3 rfl (K.m0) rfl) (fun _ h => K.tl h) (by kernel_rfl) (by kernel_rfl) rfl ?_
    try dsimp only [setd, setn, ev, nth, over, cl, eI, eP, eT, eC, List.map, List.append, List.drop, List.take]
    refine K.d_pure 24 rfl (K.add_i64 rfl rfl (by omega)) (by kernel_rfl) rfl ?_
    dsimp only [setd, setn, ev, nth]
    refine K.d_pure 25 rfl (K.build (bl52 _ _)) (by kernel_rfl) rfl ?_
    try dsimp only [setd, setn, ev, nth, over, cl, eI, eP, eT, eC, List.map, List.append, List.drop, List.take]
    refine K.d_upd 26 rfl (K.callU (first := []) (cap := [.pointer (some ⟨bb, 0, none⟩), .pointer (some ⟨bo, 0, none⟩), .pointer (some ⟨bp, 0, none⟩)]) rfl cal_53 (fun w hw => IH (a := a + 1) (deep := (max 0 ((ps.getD a default).bd - h))) (b1 := h - st) (b2 := h + st) (T := _ :: _ :: _ :: T) hw hkn (by omega) (by omega))) (fun _ => fun _ h => K.tl h) (by kernel_rfl) rfl ?_
    rintro ⟨z50, kv50⟩ hz50
    try dsimp only [setd, setn, ev, nth, over, cl, eI, eP, eT, eC, List.map, List.append, List.drop, List.take]
    obtain ⟨e50, hk50⟩ : z50 = behS pf st ps (f + 1) a h ∧ KnOk pf st ps kv50 := hz50
    subst e50
    try dsimp only [setd, setn, ev, nth, over, cl, eI, eP, eT, eC, List.map, List.append, List.drop, List.take]
    refine K.d_last 27 rfl (K.store_all sz_119 rfl rfl rfl rfl (K.rp11)) rfl (by kernel_rfl) rfl ?_
    intro _ _
    try dsimp only [setd, setn, ev, nth, over, cl, eI, eP, eT, eC, List.map, List.append, List.drop, List.take]
    refine K.d_done (by kernel_rfl) ?_
    refine K.norm_then ?_
    refine K.region_lit ?_
    refine K.seq_sil (K.load1_own one_112 rfl (K.m5) rfl) rfl ?_
    try dsimp only [setd, setn, ev, nth, over, cl, eI, eP, eT, eC, List.map, List.append, List.drop, List.take]
    refine K.seq_sil (K.loadA_own ag_115 rfl (K.m9) rfl) rfl ?_
    try dsimp only [setd, setn, ev, nth, over, cl, eI, eP, eT, eC, List.map, List.append, List.drop, List.take]
    refine K.seq_sil (K.loadA_own ag_119 rfl (K.m11) rfl) rfl ?_
    try dsimp only [setd, setn, ev, nth, over, cl, eI, eP, eT, eC, List.map, List.append, List.drop, List.take]
    refine K.seq_upd (K.mapUpdate_mv mapZ rfl rfl rfl (keyC (by omega) (by omega)) (kn_keys hgn.2 hk50) (fun _ => K.rp0)) rfl ?_
    rintro kvs3 hput3
    try dsimp only [setd, setn, ev, nth, over, cl, eI, eP, eT, eC, List.map, List.append, List.drop, List.take]
    refine K.seq_nil ?_
    refine K.norm_then ?_
    refine K.seq ?_
    refine K.region_lit ?_
    refine K.seq_sil (K.loadA_own ag_119 rfl (K.m11) rfl) rfl ?_
    try dsimp only [setd, setn, ev, nth, over, cl, eI, eP, eT, eC, List.map, List.append, List.drop, List.take]
    refine K.seq_st (K.store_all sz_119 rfl rfl rfl rfl (K.rp10)) rfl ?_
    try dsimp only [setd, setn, ev, nth, over, cl, eI, eP, eT, eC, List.map, List.append, List.drop, List.take]
    refine K.seq_nil ?_
    refine K.norm_then ?_
    refine K.ret ?_
    refine K.end_ret (fun w hw => K.res_c rfl rfl (K.run_cellA ag_119 rfl (K.m10) rfl w hw)) ?_
    exact K.retsU (behS pf st ps (f + 1) a h, kvs3) ⟨rfl, kn_put (a := a) (f := f + 1) (h := h) hk50 (by omega) hh hput3⟩ rfl (List.Sublist.cons_cons _ (List.Sublist.cons_cons _ (List.Sublist.cons_cons _ (List.Sublist.cons_cons _ (List.Sublist.cons_cons _ (List.Sublist.cons_cons _ (List.Sublist.cons_cons _ (List.Sublist.cons_cons _ (List.Sublist.cons_cons _ (List.Sublist.cons _ (List.Sublist.cons _ (List.Sublist.cons _ (List.Sublist.refl _)))))))))))))
  try replace ht23 := of_decide_eq_false ht23
  have hr1 : r19 = behS pf st ps (f + 1) a h := hrok (by simpa using ht23)
  subst hr1
  refine K.skip ?_
  refine K.norm_then ?_
  refine K.seq ?_
  refine K.region_lit ?_
  refine K.seq_sil (K.loadA_own ag_119 rfl (K.m0) rfl) rfl ?_
  try dsimp only [setd, setn, ev, nth, over, cl, eI, eP, eT, eC, List.map, List.append, List.drop, List.take]
  refine K.seq_st (K.store_all sz_119 rfl rfl rfl rfl (K.rp1)) rfl ?_
  try dsimp only [setd, setn, ev, nth, over, cl, eI, eP, eT, eC, List.map, List.append, List.drop, List.take]
  refine K.seq_nil ?_
  refine K.norm_then ?_
  refine K.ret ?_
  refine K.end_ret (fun w hw => K.res_c rfl rfl (K.run_cellA ag_119 rfl (K.m1) rfl w hw)) ?_
  exact K.retsU (behS pf st ps (f + 1) a h, kvs) ⟨rfl, hkn⟩ rfl (List.Sublist.cons _ (List.Sublist.cons _ (List.Sublist.cons _ (List.Sublist.refl _))))

theorem c56 {pf : Bool} {st : Int} {ps : List CvT} {A : Option Addr} {c br bp bb bB bk bm bh bo bl : Nat} {w0 : World} (hR : K.Rd w0 A 3 eC ps) (g : Good st ps) : ∀ f, Go56 pf st ps A c br bp bb bB bk bm bh bo bl f w0
  | 0 => fun h1 h2 h3 h4 => c56_0 hR g h1 h2 h3 h4
  | f + 1 => fun h1 h2 h3 h4 => c56_s hR g (fun h1 h2 h3 h4 => c53 hR g (fun h1 h2 h3 h4 h5 => c52 hR g (c56 hR g f) h1 h2 h3 h4 h5) h1 h2 h3 h4) h1 h2 h3 h4
theorem c53f {pf : Bool} {st : Int} {ps : List CvT} {A : Option Addr} {c br bp bb bB bk bm bh bo bl : Nat} {w0 : World} (hR : K.Rd w0 A 3 eC ps) (g : Good st ps) (f : Nat) : Go53 pf st ps A c br bp bb bB bk bm bh bo bl f w0 := fun h1 h2 h3 h4 => c53 hR g (fun h1 h2 h3 h4 h5 => c52 hR g (c56 hR g f) h1 h2 h3 h4 h5) h1 h2 h3 h4

end Go.Proofs.Ytfbglomliankmaa.Cv
end
section
set_option linter.unusedSimpArgs false
set_option linter.unusedVariables false
namespace Go.Proofs.Ytfbglomliankmaa.Cv
open Go.RowKit Go
open Go.K (setd setn ev nth over cl eI eP eT setM setF)
attribute [local irreducible] K.blk K.row
def RetB (pf : Bool) (st : Int) (ps : List CvT) (w : World) : Ending → World → Prop :=
  K.Ret (fun r : Option Addr × Nat => ps.length = 0 ∨ ∃ b, r.1 = some ⟨b, 0, none⟩) (fun r => .tuple #[.slice r.1 ps.length r.2, .int .i64 (fstS pf st ps).1.1, .int .i64 (fstS pf st ps).1.2, .int .i64 0]) (fun r => [K.row (.slice r.1 ps.length r.2) 3 1 ps.length ((srfN pf st ps ps.length).flatMap K.eI)]) w
theorem retb {pf : Bool} {st : Int} {ps : List CvT} {w : World} {L : List K.Chunk} {A : Option Addr} {n c : Nat} {ys : List Value} {v : Value} (hm : K.row (.slice A n c) 3 1 n ys ∈ L) (hn : n = ps.length) (hys : ys = (srfN pf st ps n).flatMap K.eI) (hv : v = .tuple #[.slice A n c, .int .i64 (fstS pf st ps).1.1, .int .i64 (fstS pf st ps).1.2, .int .i64 0]) : K.Hold w L (RetB pf st ps w (.returned v)) := by
  subst hn hys hv
  exact K.use_row hm fun h => K.rets (A, c) h rfl (by simpa using hm)
def lenV : Value → Nat
  | .slice _ n _ => n
  | _ => 0

set_option maxRecDepth 100000 in
set_option maxHeartbeats 4000000 in
theorem c22 {st : Int} {ps : List CvT} {A : Option Addr} {c : Nat} {pf : Bool} {w : World} (hR : K.Rd w A 3 eC ps) (g : Good st ps) (hsb : someB st ps = true) :
    Calls Try.prog 22 [.agg #[.int .i64 st, .slice A ps.length c], .bool pf].toArray w (RetB pf st ps w) := by
  have hgn := g.n
  refine K.enter (args := [.agg #[.int .i64 st, .slice A ps.length c], .bool pf]) Try.func22 rfl (n := 71) rfl ?_
  simp only [List.replicate, List.cons_append, List.nil_append]
  refine K.seq ?_
  refine K.region_lit ?_
  refine K.seq_new (K.box) rfl ?_
  intro b2
  try dsimp only [setd, setn, ev, nth, over, cl, eI, eP, eT, eC, List.map, List.append, List.drop, List.take]
  refine K.seq_new (K.box) rfl ?_
  intro b3
  try dsimp only [setd, setn, ev, nth, over, cl, eI, eP, eT, eC, List.map, List.append, List.drop, List.take]
  refine K.seq_pure (K.assign) rfl ?_
  dsimp only [setd, setn, ev, nth]
  refine K.seq_pure (K.assign) rfl ?_
  dsimp only [setd, setn, ev, nth]
  refine K.seq_pure (K.assign) rfl ?_
  dsimp only [setd, setn, ev, nth]
  refine K.seq_pure (K.assign) rfl ?_
  dsimp only [setd, setn, ev, nth]
  refine K.seq_nil ?_
  refine K.norm_then ?_
  refine K.seq ?_
  refine K.seq ?_
  refine K.region_lit ?_
  refine K.seq_sil (K.loadA_own ag_24 rfl (K.m1) rfl) rfl ?_
  try dsimp only [setd, setn, ev, nth, over, cl, eI, eP, eT, eC, List.map, List.append, List.drop, List.take]
  refine K.seq_call (K.call_g cal_46 (fun F w hF hw => c46 (hR.pass hw) g)) rfl ?_
  try dsimp only [setd, setn, ev, nth, over, cl, eI, eP, eT, eC, List.map, List.append, List.drop, List.take]
  refine K.seq_pure (K.move) rfl ?_
  dsimp only [setd, setn, ev, nth]
  refine K.seq_pure (K.extract rfl rfl) rfl ?_
  dsimp only [setd, setn, ev, nth]
  refine K.seq_pure (K.extract rfl rfl) rfl ?_
  dsimp only [setd, setn, ev, nth]
  refine K.seq_pure (K.extract rfl rfl) rfl ?_
  dsimp only [setd, setn, ev, nth]
  refine K.seq_pure (K.assign) rfl ?_
  dsimp only [setd, setn, ev, nth]
  refine K.seq_nil ?_
  refine K.norm_then ?_
  refine K.seq ?_
  refine K.region_lit ?_
  refine K.seq_pure (K.move) rfl ?_
  dsimp only [setd, setn, ev, nth]
  refine K.seq_pure (K.Pure.eq (K.neq rfl rfl) (show _ = Value.bool false from congrArg Value.bool (decide_eq_false (fun h => h rfl)))) rfl ?_
  dsimp only [setd, setn, ev, nth]
  refine K.seq_nil ?_
  refine K.norm_then ?_
  refine K.cond_false rfl ?_
  refine K.skip ?_
  refine K.norm_then ?_
  refine K.seq ?_
  refine K.region_lit ?_
  refine K.seq_sil (K.loadA_own ag_24 rfl (K.m1) rfl) rfl ?_
  try dsimp only [setd, setn, ev, nth, over, cl, eI, eP, eT, eC, List.map, List.append, List.drop, List.take]
  refine K.seq_pure (K.build (bl103 _ _ _ _)) rfl ?_
  try dsimp only [setd, setn, ev, nth, over, cl, eI, eP, eT, eC, List.map, List.append, List.drop, List.take]
  refine K.seq_new (K.alloc zr_103) rfl ?_
  intro b8
  try dsimp only [setd, setn, ev, nth, over, cl, eI, eP, eT, eC, List.map, List.append, List.drop, List.take]
  refine K.seq_st (K.store_all sz_103 rfl rfl rfl rfl (K.rp0)) rfl ?_
  try dsimp only [setd, setn, ev, nth, over, cl, eI, eP, eT, eC, List.map, List.append, List.drop, List.take]
  refine K.seq_nil ?_
  refine K.norm_then ?_
  refine K.seq ?_
  refine K.region_lit ?_
  refine K.seq_sil (K.loadA_own ag_103 rfl (K.m0) rfl) rfl ?_
  try dsimp only [setd, setn, ev, nth, over, cl, eI, eP, eT, eC, List.map, List.append, List.drop, List.take]
  refine K.seq_loud (K.call_f cal_47 (fun F w hF hw => c47 (hR.pass hw) g.bands g.s9 hgn.1 g.n9)) rfl ?_
  rintro q30 _
  try dsimp only [setd, setn, ev, nth, over, cl, eI, eP, eT, eC, List.map, List.append, List.drop, List.take]
  refine K.seq_pure (K.move) rfl ?_
  dsimp only [setd, setn, ev, nth]
  refine K.seq_pure (K.extract rfl rfl) rfl ?_
  dsimp only [setd, setn, ev, nth]
  refine K.seq_pure (K.extract rfl rfl) rfl ?_
  dsimp only [setd, setn, ev, nth]
  refine K.seq_new (K.alloc zr_48) rfl ?_
  intro b9
  try dsimp only [setd, setn, ev, nth, over, cl, eI, eP, eT, eC, List.map, List.append, List.drop, List.take]
  refine K.seq_st (K.store sz_48 rfl rfl rfl rfl (K.rp0)) rfl ?_
  try dsimp only [setd, setn, ev, nth, over, cl, eI, eP, eT, eC, List.map, List.append, List.drop, List.take]
  refine K.seq_pure (K.assign) rfl ?_
  dsimp only [setd, setn, ev, nth]
  refine K.seq_nil ?_
  refine K.norm_then ?_
  refine K.seq ?_
  refine K.seq ?_
  refine K.region_lit ?_
  refine K.seq_pure (K.move) rfl ?_
  dsimp only [setd, setn, ev, nth]
  first | refine K.seq_pure (K.Pure.eq (K.not_d rfl) (show _ = Value.bool false from congrArg Value.bool (by rw [hsb]; rfl))) rfl ?_ | refine K.seq_pure (K.Pure.eq (K.not_ rfl) (show _ = Value.bool false from congrArg Value.bool (by rw [hsb]; rfl))) rfl ?_
  try dsimp only [setd, setn, ev, nth, over, cl, eI, eP, eT, eC, List.map, List.append, List.drop, List.take]
  refine K.seq_nil ?_
  refine K.norm_then ?_
  refine K.cond_false rfl ?_
  refine K.skip ?_
  refine K.norm_then ?_
  refine K.seq ?_
  refine K.region_lit ?_
  refine K.seq_new (K.mkMap_v) rfl ?_
  intro b35
  try dsimp only [setd, setn, ev, nth, over, cl, eI, eP, eT, eC, List.map, List.append, List.drop, List.take]
  refine K.seq_new (K.alloc zr_112) rfl ?_
  intro b11
  try dsimp only [setd, setn, ev, nth, over, cl, eI, eP, eT, eC, List.map, List.append, List.drop, List.take]
  refine K.seq_st (K.store sz_112 rfl rfl rfl rfl (K.rp0)) rfl ?_
  try dsimp only [setd, setn, ev, nth, over, cl, eI, eP, eT, eC, List.map, List.append, List.drop, List.take]
  refine K.seq_nil ?_
  refine K.norm_then ?_
  refine K.seq ?_
  refine K.region_lit ?_
  refine K.seq_new (K.alloc zr_113) rfl ?_
  intro b12
  try dsimp only [setd, setn, ev, nth, over, cl, eI, eP, eT, eC, List.map, List.append, List.drop, List.take]
  refine K.seq_nil ?_
  refine K.norm_then ?_
  refine K.seq ?_
  refine K.region_lit ?_
  refine K.seq_pure (K.mkFunc) rfl ?_
  try dsimp only [setd, setn, ev, nth, over, cl, eI, eP, eT, eC, List.map, List.append, List.drop, List.take]
  refine K.seq_new (K.alloc zr_120) rfl ?_
  intro b13
  try dsimp only [setd, setn, ev, nth, over, cl, eI, eP, eT, eC, List.map, List.append, List.drop, List.take]
  refine K.seq_st (K.store sz_120 rfl rfl rfl rfl (K.rp0)) rfl ?_
  try dsimp only [setd, setn, ev, nth, over, cl, eI, eP, eT, eC, List.map, List.append, List.drop, List.take]
  refine K.seq_nil ?_
  refine K.norm_then ?_
  refine K.seq ?_
  refine K.region_lit ?_
  refine K.seq_pure (K.mkFunc) rfl ?_
  try dsimp only [setd, setn, ev, nth, over, cl, eI, eP, eT, eC, List.map, List.append, List.drop, List.take]
  refine K.seq_new (K.alloc zr_122) rfl ?_
  intro b14
  try dsimp only [setd, setn, ev, nth, over, cl, eI, eP, eT, eC, List.map, List.append, List.drop, List.take]
  refine K.seq_st (K.store sz_122 rfl rfl rfl rfl (K.rp0)) rfl ?_
  try dsimp only [setd, setn, ev, nth, over, cl, eI, eP, eT, eC, List.map, List.append, List.drop, List.take]
  refine K.seq_nil ?_
  refine K.norm_then ?_
  refine K.seq ?_
  refine K.region_lit ?_
  refine K.seq_pure (K.mkFunc) rfl ?_
  try dsimp only [setd, setn, ev, nth, over, cl, eI, eP, eT, eC, List.map, List.append, List.drop, List.take]
  refine K.seq_st (K.store sz_113 rfl rfl rfl rfl (K.rp2)) rfl ?_
  try dsimp only [setd, setn, ev, nth, over, cl, eI, eP, eT, eC, List.map, List.append, List.drop, List.take]
  refine K.seq_nil ?_
  refine K.norm_then ?_
  refine K.seq ?_
  refine K.permH (L' := [_, _, _, _, _, _, _, _, _, _]) (List.Perm.trans (List.perm_middle (l₁ := [_, _, _, _])) (List.Perm.cons _ (List.Perm.trans (List.perm_middle (l₁ := [_, _, _, _, _, _, _, _])) (List.Perm.cons _ (List.Perm.trans (List.perm_middle (l₁ := [_, _, _, _, _, _, _])) (List.Perm.cons _ (List.Perm.trans (List.perm_middle (l₁ := [_, _, _, _])) (List.Perm.cons _ (List.Perm.trans (List.perm_middle (l₁ := [_, _, _, _])) (List.Perm.cons _ (List.Perm.trans (List.perm_middle (l₁ := [_, _, _])) (List.Perm.cons _ (List.Perm.trans (List.perm_middle (l₁ := [_, _])) (List.Perm.cons _ (List.Perm.trans (List.perm_middle (l₁ := [_])) (List.Perm.cons _ (List.Perm.refl _))))))))))))))))) ?_
  refine K.region_lit ?_
  refine K.seq_sil (K.load1_own one_122 rfl (K.m8) rfl) rfl ?_
  try dsimp only [setd, setn, ev, nth, over, cl, eI, eP, eT, eC, List.map, List.append, List.drop, List.take]
  refine K.seq_pure (K.build (bl52 _ _)) rfl ?_
  try dsimp only [setd, setn, ev, nth, over, cl, eI, eP, eT, eC, List.map, List.append, List.drop, List.take]
  refine K.seq_upd (K.callU (first := []) (cap := [.pointer (some ⟨b9, 0, none⟩), .pointer (some ⟨b13, 0, none⟩), .pointer (some ⟨b3, 0, none⟩)]) rfl cal_53 (fun w hw => c53f hR g (ps.length - 1) (a := 0) (deep := 0) (b1 := 0) (b2 := 9000) (T := [_]) hw kn_nil (by omega) (by omega))) rfl ?_
  rintro ⟨z41, kv41⟩ hz41
  try dsimp only [setd, setn, ev, nth, over, cl, eI, eP, eT, eC, List.map, List.append, List.drop, List.take]
  obtain ⟨e41, hk41⟩ : z41 = (fstS pf st ps) ∧ KnOk pf st ps kv41 := hz41
  subst e41
  try dsimp only [setd, setn, ev, nth, over, cl, eI, eP, eT, eC, List.map, List.append, List.drop, List.take]
  refine K.seq_new (K.alloc zr_119) rfl ?_
  intro b15
  try dsimp only [setd, setn, ev, nth, over, cl, eI, eP, eT, eC, List.map, List.append, List.drop, List.take]
  refine K.seq_st (K.store_all sz_119 rfl rfl rfl rfl (K.rp0)) rfl ?_
  try dsimp only [setd, setn, ev, nth, over, cl, eI, eP, eT, eC, List.map, List.append, List.drop, List.take]
  refine K.seq_nil ?_
  refine K.norm_then ?_
  refine K.seq ?_
  refine K.region_lit ?_
  refine K.seq_pure (K.fieldAddr_lit fo_119_1 rfl) rfl ?_
  dsimp only [setd, setn, ev, nth]
  refine K.seq_sil (K.load1_own one_3 rfl (K.m0) rfl) rfl ?_
  try dsimp only [setd, setn, ev, nth, over, cl, eI, eP, eT, eC, List.map, List.append, List.drop, List.take]
  refine K.seq_pure (K.build (bl115 _ _)) rfl ?_
  try dsimp only [setd, setn, ev, nth, over, cl, eI, eP, eT, eC, List.map, List.append, List.drop, List.take]
  refine K.nil_row (e := 3) (size := 1) ?_
  refine K.seq_new (K.alloc zr_115) rfl ?_
  intro b16
  try dsimp only [setd, setn, ev, nth, over, cl, eI, eP, eT, eC, List.map, List.append, List.drop, List.take]
  refine K.seq_st (K.store_all sz_115 rfl rfl rfl rfl (K.rp0)) rfl ?_
  try dsimp only [setd, setn, ev, nth, over, cl, eI, eP, eT, eC, List.map, List.append, List.drop, List.take]
  refine K.seq_nil ?_
  refine K.norm_then ?_
  refine K.block ?_
  refine K.loopW [4, 16] [5, 6, 7, 45, 46, 47, 48, 49, 50, 51, 52, 53, 54, 55, 56, 57, 58, 59, 60, 61, 62, 63, 64, 65, 66, 67, 68, 69, 70, 71, 72] (fun vi L => ∃ (k : Nat) (Q : Option Addr) (q bs : Nat) (kv1 : List (Value × Value)), vi = [.slice Q k q, .pointer (some ⟨bs, 0, none⟩)] ∧ L = [K.blk bs 115 [.int .i64 ((k : Nat) : Int), .int .i64 (srfS pf st ps k)], K.row (.slice Q k q) 3 1 k ((srfN pf st ps k).flatMap K.eI), K.blk b15 119 [.int .i64 (fstS pf st ps).1.1, .int .i64 (fstS pf st ps).1.2, .int .i64 (fstS pf st ps).2], K.mv b35 kv1, K.blk b2 24 [.int .i64 st, .slice A ps.length c], K.blk b3 4 [.bool pf], K.blk b9 48 [.slice (some ⟨q30, 0, none⟩) ps.length ps.length], K.blk q30 52 ((bnd st ps).flatMap K.eP), K.blk b11 112 [.map (some b35)], K.blk b12 113 [.func (.func 56) #[] #[.pointer (some ⟨b2, 0, none⟩), .pointer (some ⟨b11, 0, none⟩), .pointer (some ⟨b14, 0, none⟩)]], K.blk b13 120 [.func (.func 52) #[] #[.pointer (some ⟨b12, 0, none⟩), .pointer (some ⟨b2, 0, none⟩)]], K.blk b14 122 [.func (.func 53) #[] #[.pointer (some ⟨b9, 0, none⟩), .pointer (some ⟨b13, 0, none⟩), .pointer (some ⟨b3, 0, none⟩)]], K.blk b8 103 [.int .i64 st, .slice A ps.length c]] ∧ KnOk pf st ps kv1 ∧ k < ps.length) (fun vi => ps.length - lenV (K.nth vi 0)) ?_ ?_
  · exact ⟨0, none, 0, b16, kv41, rfl, rfl, hk41, by omega⟩
  intro vi vr L hJ
  obtain ⟨k, Q, q, bs, kv1, rfl, rfl, hk1, hkn⟩ := hJ
  try dsimp only [setd, setn, ev, nth, over, cl, eI, eP, eT, eC, setM, setF, List.map, List.append, List.drop, List.take]
  refine K.seq ?_
  refine K.block ?_
  refine K.seq ?_
  refine K.region_lit ?_
  refine K.seq_pure (K.move) rfl ?_
  dsimp only [setd, setn, ev, nth]
  refine K.seq_pure (K.fieldAddr_lit fo_115_1 rfl) rfl ?_
  dsimp only [setd, setn, ev, nth]
  refine K.seq_sil (K.load1_own one_3 rfl (K.m0) rfl) rfl ?_
  try dsimp only [setd, setn, ev, nth, over, cl, eI, eP, eT, eC, List.map, List.append, List.drop, List.take]
  refine K.seq_new (K.buildSlice (bs1 _)) rfl ?_
  intro b56
  try dsimp only [setd, setn, ev, nth, over, cl, eI, eP, eT, eC, List.map, List.append, List.drop, List.take]
  refine K.seq_upd (K.append el_31 rfl rfl (K.PtrL.own' (K.m0)) rfl rfl (by decide) (by omega) (by omega) (fun _ _ => K.rp2)) rfl ?_
  rintro ⟨g57, c57⟩ _
  try dsimp only [setd, setn, ev, nth, over, cl, eI, eP, eT, eC, List.map, List.append, List.drop, List.take]
  refine K.seq_pure (K.assign) rfl ?_
  dsimp only [setd, setn, ev, nth]
  refine K.seq_nil ?_
  refine K.norm_then ?_
  refine K.seq ?_
  refine K.region_lit ?_
  refine K.seq_pure (K.fieldAddr_lit fo_115_0 rfl) rfl ?_
  dsimp only [setd, setn, ev, nth]
  refine K.seq_sil (K.load1_own one_3 rfl (K.m1) rfl) rfl ?_
  try dsimp only [setd, setn, ev, nth, over, cl, eI, eP, eT, eC, List.map, List.append, List.drop, List.take]
  refine K.seq_pure (K.fieldAddr_lit fo_24_1 rfl) rfl ?_
  dsimp only [setd, setn, ev, nth]
  refine K.seq_sil (K.load1_own one_22 rfl (K.m5) rfl) rfl ?_
  try dsimp only [setd, setn, ev, nth, over, cl, eI, eP, eT, eC, List.map, List.append, List.drop, List.take]
  refine K.seq_pure (K.len_sl sl_22 rfl) rfl ?_
  dsimp only [setd, setn, ev, nth]
  refine K.seq_pure (K.sub_i64 rfl rfl (by omega)) rfl ?_
  dsimp only [setd, setn, ev, nth]
  refine K.seq_pure (K.eql rfl rfl) rfl ?_
  dsimp only [setd, setn, ev, nth]
  refine K.seq_nil ?_
  refine K.norm_then ?_
  refine K.cond rfl (fun ht64 => ?_) (fun ht64 => ?_)
  · try replace ht64 := of_decide_eq_true ht64
    refine K.seq ?_
    refine K.draw_L [] Try_mixed ?_
    refine K.d_pure 0 rfl (K.move) (by kernel_rfl) rfl ?_
    dsimp only [setd, setn, ev, nth]
    refine K.d_pure 1 rfl (K.fieldAddr_lit fo_119_0 rfl) (by kernel_rfl) rfl ?_
    dsimp only [setd, setn, ev, nth]
    refine K.d_pure 2 rfl (K.indexAddr_ar ar_117 rfl rfl (by omega) (by omega)) (by kernel_rfl) rfl ?_
    try dsimp only [setd, setn, ev, nth, over, cl, eI, eP, eT, eC, List.map, List.append, List.drop, List.take]
    refine K.d_mem 3 rfl (K.load1_own one_3 rfl (K.m3) rfl) (fun _ h => h) (by kernel_rfl) (by kernel_rfl) rfl ?_
    try dsimp only [setd, setn, ev, nth, over, cl, eI, eP, eT, eC, List.map, List.append, List.drop, List.take]
    refine K.d_pure 4 rfl (K.fieldAddr_lit fo_119_0 rfl) (by kernel_rfl) rfl ?_
    dsimp only [setd, setn, ev, nth]
    refine K.d_pure 5 rfl (K.indexAddr_ar ar_117 rfl rfl (by omega) (by omega)) (by kernel_rfl) rfl ?_
    try dsimp only [setd, setn, ev, nth, over, cl, eI, eP, eT, eC, List.map, List.append, List.drop, List.take]
    refine K.d_mem 6 rfl (K.load1_own one_3 rfl (K.m3) rfl) (fun _ h => h) (by kernel_rfl) (by kernel_rfl) rfl ?_
    try dsimp only [setd, setn, ev, nth, over, cl, eI, eP, eT, eC, List.map, List.append, List.drop, List.take]
    refine K.d_pure 7 rfl (K.assign) (by kernel_rfl) rfl ?_
    dsimp only [setd, setn, ev, nth]
    refine K.d_pure 8 rfl (K.assign) (by kernel_rfl) rfl ?_
    dsimp only [setd, setn, ev, nth]
    refine K.d_pure 9 rfl (K.assign) (by kernel_rfl) rfl ?_
    dsimp only [setd, setn, ev, nth]
    refine K.d_pure 10 rfl (K.assign) (by kernel_rfl) rfl ?_
    dsimp only [setd, setn, ev, nth]
    refine K.d_done (by kernel_rfl) ?_
    refine K.norm_then ?_
    refine K.ret ?_
    refine K.ret_block ?_
    refine K.ret_then ?_
    refine K.ret_then ?_
    refine K.ret_block ?_
    refine K.end_ret (fun w _ => K.res_t4 rfl w) ?_
    exact retb (n := k + 1) K.m2 (by omega) (by rw [srfN_s, List.flatMap_append]; rfl) rfl
  try replace ht64 := of_decide_eq_false ht64
  refine K.skip ?_
  refine K.norm_block ?_
  refine K.norm_then ?_
  refine K.seq ?_
  refine K.seq ?_
  refine K.region_lit ?_
  refine K.seq_sil (K.loadA_own ag_115 rfl (K.m1) rfl) rfl ?_
  try dsimp only [setd, setn, ev, nth, over, cl, eI, eP, eT, eC, List.map, List.append, List.drop, List.take]
  refine K.seq_nil ?_
  refine K.norm_then ?_
  refine K.region_lit ?_
  refine K.seq_new (K.alloc zr_115) rfl ?_
  intro b16
  try dsimp only [setd, setn, ev, nth, over, cl, eI, eP, eT, eC, List.map, List.append, List.drop, List.take]
  refine K.seq_st (K.store_all sz_115 rfl rfl rfl rfl (K.rp0)) rfl ?_
  try dsimp only [setd, setn, ev, nth, over, cl, eI, eP, eT, eC, List.map, List.append, List.drop, List.take]
  refine K.seq_nil ?_
  refine K.norm_then ?_
  refine K.weak (List.Sublist.cons_cons _ (List.Sublist.cons _ (List.Sublist.cons _ (List.Sublist.cons_cons _ (List.Sublist.cons_cons _ (List.Sublist.cons_cons _ (List.Sublist.cons_cons _ (List.Sublist.cons_cons _ (List.Sublist.cons_cons _ (List.Sublist.cons_cons _ (List.Sublist.cons_cons _ (List.Sublist.cons_cons _ (List.Sublist.cons_cons _ (List.Sublist.cons_cons _ (List.Sublist.cons_cons _ (List.Sublist.slnil)))))))))))))))) ?_
  refine K.permH (L' := [_, _, _, _, _, _, _, _, _, _, _, _, _]) (List.Perm.trans (List.perm_middle (l₁ := [_, _, _])) (List.Perm.cons _ (List.Perm.trans (List.perm_middle (l₁ := [_, _, _])) (List.Perm.cons _ (List.Perm.trans (List.perm_middle (l₁ := [_, _, _])) (List.Perm.cons _ (List.Perm.trans (List.perm_middle (l₁ := [_, _, _])) (List.Perm.cons _ (List.Perm.trans (List.perm_middle (l₁ := [_, _, _])) (List.Perm.cons _ (List.Perm.trans (List.perm_middle (l₁ := [_, _, _])) (List.Perm.cons _ (List.Perm.trans (List.perm_middle (l₁ := [_, _, _])) (List.Perm.cons _ (List.Perm.trans (List.perm_middle (l₁ := [_, _, _])) (List.Perm.cons _ (List.Perm.trans (List.perm_middle (l₁ := [_, _, _])) (List.Perm.cons _ (List.Perm.refl _))))))))))))))))))) ?_
  refine K.draw_drop 1 [8] Try_mixed ?_
  refine K.d_pure 0 rfl (K.fieldAddr_lit fo_115_0 rfl) (by kernel_rfl) rfl ?_
  dsimp only [setd, setn, ev, nth]
  refine K.d_mem 1 rfl (K.load1_own one_3 rfl (K.m8) rfl) (fun _ h => K.tl h) (by kernel_rfl) (by kernel_rfl) rfl ?_
  try dsimp only [setd, setn, ev, nth, over, cl, eI, eP, eT, eC, List.map, List.append, List.drop, List.take]
  refine K.d_pure 2 rfl (K.Pure.eq (K.add_i64 rfl rfl (by omega)) (show _ = Value.int .i64 (((k + 1 : Nat)) : Int) from congrArg (Value.int .i64) (by omega))) (by kernel_rfl) rfl ?_
  dsimp only [setd, setn, ev, nth]
  refine K.d_mem 3 rfl (K.load1_own one_113 rfl (K.m5) rfl) (fun _ h => K.tl h) (by kernel_rfl) (by kernel_rfl) rfl ?_
  try dsimp only [setd, setn, ev, nth, over, cl, eI, eP, eT, eC, List.map, List.append, List.drop, List.take]
  refine K.d_mem 4 rfl (K.loadA_own ag_115 rfl (K.m8) rfl) (fun _ h => K.tl h) (by kernel_rfl) (by kernel_rfl) rfl ?_
  try dsimp only [setd, setn, ev, nth, over, cl, eI, eP, eT, eC, List.map, List.append, List.drop, List.take]
  refine K.d_upd 5 rfl (K.callU (first := []) (cap := [.pointer (some ⟨b2, 0, none⟩), .pointer (some ⟨b11, 0, none⟩), .pointer (some ⟨b14, 0, none⟩)]) rfl cal_56 (fun w hw => c56 hR g (ps.length - 1 - k) (a := k) (h := (srfS pf st ps k)) (T := [_, _, _, _]) hw hk1 (by omega) (srfS_ok g k (by omega)))) (fun _ => fun _ h => K.tl h) (by kernel_rfl) rfl ?_
  rintro ⟨z50, kv50⟩ hz50
  try dsimp only [setd, setn, ev, nth, over, cl, eI, eP, eT, eC, List.map, List.append, List.drop, List.take]
  obtain ⟨e50, hk50⟩ : z50 = behS pf st ps (ps.length - 1 - k) k (srfS pf st ps k) ∧ KnOk pf st ps kv50 := hz50
  subst e50
  try dsimp only [setd, setn, ev, nth, over, cl, eI, eP, eT, eC, List.map, List.append, List.drop, List.take]
  refine K.d_pure 6 rfl (K.field (fd1 _ _ _)) (by kernel_rfl) rfl ?_
  try dsimp only [setd, setn, ev, nth, over, cl, eI, eP, eT, eC, List.map, List.append, List.drop, List.take]
  refine K.d_pure 7 rfl (K.build (bl115 _ _)) (by kernel_rfl) rfl ?_
  try dsimp only [setd, setn, ev, nth, over, cl, eI, eP, eT, eC, List.map, List.append, List.drop, List.take]
  refine K.d_last 8 rfl (K.store_all sz_115 rfl rfl rfl rfl (K.rp9)) rfl (by kernel_rfl) rfl ?_
  intro _ _
  try dsimp only [setd, setn, ev, nth, over, cl, eI, eP, eT, eC, List.map, List.append, List.drop, List.take]
  refine K.d_done (by kernel_rfl) ?_
  refine K.permH (L' := [_, _, _, _, _, _, _, _, _, _, _, _, _]) (List.Perm.trans (List.perm_middle (l₁ := [_, _, _, _, _, _, _, _, _])) (List.Perm.cons _ (List.Perm.trans (List.perm_middle (l₁ := [_, _, _, _, _, _, _, _, _])) (List.Perm.cons _ (List.Perm.trans (List.perm_middle (l₁ := [_, _, _, _, _, _, _, _, _])) (List.Perm.cons _ (List.Perm.refl _))))))) ?_
  exact K.round_endW (L'' := [K.blk b16 115 [.int .i64 (((k + 1) : Nat) : Int), .int .i64 (srfS pf st ps (k + 1))], K.row (.slice (some ⟨g57, 0, none⟩) (k + 1) c57) 3 1 (k + 1) ((srfN pf st ps k).flatMap K.eI ++ [.int .i64 (srfS pf st ps k)]), K.blk b15 119 [.int .i64 (fstS pf st ps).1.1, .int .i64 (fstS pf st ps).1.2, .int .i64 (fstS pf st ps).2], K.mv b35 kv50, K.blk b2 24 [.int .i64 st, .slice A ps.length c], K.blk b3 4 [.bool pf], K.blk b9 48 [.slice (some ⟨q30, 0, none⟩) ps.length ps.length], K.blk q30 52 ((bnd st ps).flatMap K.eP), K.blk b11 112 [.map (some b35)], K.blk b12 113 [.func (.func 56) #[] #[.pointer (some ⟨b2, 0, none⟩), .pointer (some ⟨b11, 0, none⟩), .pointer (some ⟨b14, 0, none⟩)]], K.blk b13 120 [.func (.func 52) #[] #[.pointer (some ⟨b12, 0, none⟩), .pointer (some ⟨b2, 0, none⟩)]], K.blk b14 122 [.func (.func 53) #[] #[.pointer (some ⟨b9, 0, none⟩), .pointer (some ⟨b13, 0, none⟩), .pointer (some ⟨b3, 0, none⟩)]], K.blk b8 103 [.int .i64 st, .slice A ps.length c]]) [.slice (some ⟨g57, 0, none⟩) (k + 1) c57, .pointer (some ⟨b16, 0, none⟩)] ⟨k + 1, some ⟨g57, 0, none⟩, c57, b16, kv50, rfl, by rw [srfN_s, List.flatMap_append]; rfl, hk50, by omega⟩ (by show ps.length - (k + 1) < ps.length - k; omega) (List.Sublist.refl _) (by kernel_rfl)

end Go.Proofs.Ytfbglomliankmaa.Cv
end
section
set_option linter.unusedSimpArgs false
set_option linter.unusedVariables false
namespace Go.Proofs.Ytfbglomliankmaa.Sc
open Go
section
variable {better : Int × Int → Int × Int → Bool} {ok : Int × Int → Bool}
end
section
variable {kind base most : Int} {hs : List Int} {rs : List (Int × Int)} {limit : Int}
end
section
variable (kind base most : Int) (hs : List Int) (rs : List (Int × Int)) (limit : Int)
def grtR : (Int × Int) × Int :=
  if (chk kind base most hs rs).2.2 ≠ 0 then ((0, 0), (chk kind base most hs rs).2.2)
  else if ¬ (0 ≤ limit ∧ limit ≤ 1000000) then ((0, 0), 7)
  else if lastG (okG kind base most hs rs limit) SB = (0, 0) then ((0, 0), 9) else (lastG (okG kind base most hs rs limit) SB, 0)
def lstR : (Int × Int) × Int :=
  if (chk kind base most hs rs).2.2 ≠ 0 then ((0, 0), (chk kind base most hs rs).2.2)
  else if frstG (okL kind base most hs rs) SB = (0, 0) then ((0, 0), 9) else (frstG (okL kind base most hs rs) SB, 0)
end
@[reducible] def sev (r : (Int × Int) × Int) : Value := .tuple #[.agg #[.int .i64 r.1.1, .int .i64 r.1.2], .int .i64 r.2]
end Go.Proofs.Ytfbglomliankmaa.Sc
end
section
set_option linter.unusedSimpArgs false
set_option linter.unusedVariables false
namespace Go.Proofs.Ytfbglomliankmaa.Sc
open Go
def caH : List Int := [100, 110, 125, 160]
def caR : List (Int × Int) := [(0, 1), (1, 2), (3, 2)]
theorem a17 : cutsR 2 100 50 caH caR 1 2 = [0, 5, 13, 30] ∧ askE 2 100 50 caH caR 1 2 = 0 := by decide +kernel
theorem a20 : offsR 2 100 50 caH caR 2 3 = [50, 0, 15] ∧ askE 2 100 50 caH caR 2 3 = 0 := by decide +kernel
theorem a22 : flatsR 2 100 50 caH caR 1 30 = [0] ∧ askE 2 100 50 caH caR 1 30 = 0 := by decide +kernel
theorem a27 : grtR 2 100 50 caH caR 47 = ((5, 6), 0) := by decide +kernel
theorem a29 : lstR 2 100 50 caH caR = ((1, 16), 0) := by decide +kernel
theorem a31 : scalesR 2 100 50 caH caR [(3, 41, 41)] = [(19, 28), (17, 25), (15, 22), (13, 19), (11, 16), (20, 29)] ∧ marksE 2 100 50 caH caR [(3, 41, 41)] = 0 := by decide +kernel
theorem a24 : apartR 2 100 50 caH caR 1 2 2 3 = [1, 2, 3] ∧ ask2 2 100 50 caH caR 1 2 2 3 = 0 := by decide +kernel
theorem a34 : tellR 2 100 50 caH caR [(1, 2), (3, 5), (2, 3)] = [1] ∧ tellE 2 100 50 caH caR [(1, 2), (3, 5), (2, 3)] = 0 := by decide +kernel
theorem a34b : tellR 2 100 50 caH caR [(19, 28), (17, 25)] = [] ∧ tellE 2 100 50 caH caR [(19, 28), (17, 25)] = 5 := by decide +kernel
theorem b20 : offsR 2 100 50 caH caR 1 2 = [0, 67, 29] ∧ askE 2 100 50 caH caR 1 2 = 0 := by decide +kernel
theorem b24 : apartR 2 100 50 caH caR 19 28 17 25 = [] ∧ ask2 2 100 50 caH caR 19 28 17 25 = 0 := by decide +kernel
end Go.Proofs.Ytfbglomliankmaa.Sc

namespace Go.Proofs.Ytfbglomliankmaa.Sc
open Go
def ltL (a b : List Int) : Prop := a.length < b.length ∨ a.length = b.length ∧ cmpL a b < 0
instance (a b : List Int) : Decidable (ltL a b) := inferInstanceAs (Decidable (_ ∨ _))
section
variable {n : Nat}
variable {kind base : Int} {hs : List Int} {l : List (Int × Int)} {T : List Int → Bool}
end
section
variable (kind base : Int) (hs : List Int) (l : List (Int × Int))
end
section
variable {kind base : Int} {hs : List Int} {l : List (Int × Int)}
end
section
variable (kind base most : Int) (hs : List Int) (rs : List (Int × Int)) (l : List (Int × Int))
end
section
variable {m k : Nat} {b : List Int} {n : Int}
end
section
variable {kind base most : Int} {hs : List Int} {rs : List (Int × Int)} {l : List (Int × Int)} {pts : List Int} {i k : Nat}
end
end Go.Proofs.Ytfbglomliankmaa.Sc
end
section
set_option linter.unusedSimpArgs false
set_option linter.unusedVariables false
namespace Go.Proofs.Ytfbglomliankmaa.Sc
open Go.RowKit Go
open Go.K (setd setn ev nth over cl eI eP eT setM setF)
attribute [local irreducible] K.blk K.row

set_option maxRecDepth 100000 in
theorem e17 {kind base most : Int} {A B : Option Addr} {c d : Nat} {hs : List Int} {rs : List (Int × Int)} {u v : Int} {w : World} (hH : K.Rd w A 1 K.eI hs) (hR : K.Rd w B 2 K.eP rs) (hn : hs.length ≤ 4611686018427387904) (hm : rs.length ≤ 4611686018427387904) (he : (chk kind base most hs rs).2.2 ≠ 0) :
    Calls Try.prog 10 [.agg #[.int .i64 kind, .int .i64 base, .int .i64 most, .slice A hs.length c, .slice B rs.length d], .agg #[.int .i64 u, .int .i64 v]].toArray w (K.RetSE 3 1 K.eI ([] : List Int) (chk kind base most hs rs).2.2 w) := by
  refine K.enter (args := [.agg #[.int .i64 kind, .int .i64 base, .int .i64 most, .slice A hs.length c, .slice B rs.length d], .agg #[.int .i64 u, .int .i64 v]]) Try.func10 rfl (n := 29) rfl ?_
  simp only [List.replicate, List.cons_append, List.nil_append]
  refine K.seq ?_
  refine K.region_lit ?_
  refine K.seq_new (K.box) rfl ?_
  intro b2
  try dsimp only [setd, setn, ev, nth, over, cl, eI, eP, eT, List.map, List.append, List.drop, List.take]
  refine K.seq_new (K.box) rfl ?_
  intro b3
  try dsimp only [setd, setn, ev, nth, over, cl, eI, eP, eT, List.map, List.append, List.drop, List.take]
  refine K.seq_pure (K.assign) rfl ?_
  dsimp only [setd, setn, ev, nth]
  refine K.seq_pure (K.assign) rfl ?_
  dsimp only [setd, setn, ev, nth]
  refine K.seq_nil ?_
  refine K.norm_then ?_
  refine K.seq ?_
  refine K.region_lit ?_
  refine K.seq_sil (K.loadA_own ag_41 rfl (K.m1) rfl) rfl ?_
  try dsimp only [setd, setn, ev, nth, over, cl, eI, eP, eT, List.map, List.append, List.drop, List.take]
  refine K.seq_sil (K.loadA_own ag_36 rfl (K.m0) rfl) rfl ?_
  try dsimp only [setd, setn, ev, nth, over, cl, eI, eP, eT, List.map, List.append, List.drop, List.take]
  refine K.seq_new (K.buildSlice (bs27 _ _)) rfl ?_
  intro b13
  try dsimp only [setd, setn, ev, nth, over, cl, eI, eP, eT, List.map, List.append, List.drop, List.take]
  refine K.seq_call (K.call_g cal_41 (fun F w hF hw => e58 (l := [(u, v)]) (hH.pass hw) (hR.pass hw) hn hm he)) rfl ?_
  try dsimp only [setd, setn, ev, nth, over, cl, eI, eP, eT, List.map, List.append, List.drop, List.take]
  refine K.seq_pure (K.move) rfl ?_
  dsimp only [setd, setn, ev, nth]
  refine K.seq_pure (K.extract rfl rfl) rfl ?_
  dsimp only [setd, setn, ev, nth]
  refine K.seq_pure (K.extract rfl rfl) rfl ?_
  dsimp only [setd, setn, ev, nth]
  refine K.seq_new (K.alloc zr_94) rfl ?_
  intro b6
  try dsimp only [setd, setn, ev, nth, over, cl, eI, eP, eT, List.map, List.append, List.drop, List.take]
  refine K.seq_st (K.store_all sz_94 rfl rfl rfl rfl (K.rp0)) rfl ?_
  try dsimp only [setd, setn, ev, nth, over, cl, eI, eP, eT, List.map, List.append, List.drop, List.take]
  refine K.seq_pure (K.assign) rfl ?_
  dsimp only [setd, setn, ev, nth]
  refine K.seq_nil ?_
  refine K.norm_then ?_
  refine K.seq ?_
  refine K.seq ?_
  refine K.region_lit ?_
  refine K.seq_pure (K.move) rfl ?_
  dsimp only [setd, setn, ev, nth]
  refine K.seq_pure (K.neq rfl rfl) rfl ?_
  dsimp only [setd, setn, ev, nth]
  refine K.seq_nil ?_
  refine K.norm_then ?_
  refine K.cond rfl (fun ht18 => ?_) (fun ht18 => ?_)
  · try replace ht18 := of_decide_eq_true ht18
    refine K.seq ?_
    refine K.region_lit ?_
    refine K.seq_pure (K.move) rfl ?_
    dsimp only [setd, setn, ev, nth]
    refine K.seq_pure (K.assign) rfl ?_
    dsimp only [setd, setn, ev, nth]
    refine K.seq_pure (K.assign) rfl ?_
    dsimp only [setd, setn, ev, nth]
    refine K.seq_nil ?_
    refine K.norm_then ?_
    refine K.ret ?_
    refine K.ret_then ?_
    refine K.end_ret (fun w _ => K.res_tmp2 rfl w) ?_
    exact K.rets_se0 rfl rfl rfl
  try replace ht18 := of_decide_eq_false ht18
  exact absurd he ht18

set_option maxRecDepth 100000 in
theorem g17 {kind base most : Int} {A B : Option Addr} {c d : Nat} {hs : List Int} {rs : List (Int × Int)} {u v : Int} {w : World} (hH : K.Rd w A 1 K.eI hs) (hR : K.Rd w B 2 K.eP rs) (g : Good kind base most hs rs) :
    Calls Try.prog 10 [.agg #[.int .i64 kind, .int .i64 base, .int .i64 most, .slice A hs.length c, .slice B rs.length d], .agg #[.int .i64 u, .int .i64 v]].toArray w (K.RetSE 3 1 K.eI (if scE u v = 0 then (cuts kind base u v hs) else []) (scE u v) w) := by
  have g1 := g.k
  have g2 := g.n
  have g3 := g.r
  have g4 := g.b
  have g5 := g.m
  refine K.enter (args := [.agg #[.int .i64 kind, .int .i64 base, .int .i64 most, .slice A hs.length c, .slice B rs.length d], .agg #[.int .i64 u, .int .i64 v]]) Try.func10 rfl (n := 29) rfl ?_
  simp only [List.replicate, List.cons_append, List.nil_append]
  refine K.seq ?_
  refine K.region_lit ?_
  refine K.seq_new (K.box) rfl ?_
  intro b2
  try dsimp only [setd, setn, ev, nth, over, cl, eI, eP, eT, List.map, List.append, List.drop, List.take]
  refine K.seq_new (K.box) rfl ?_
  intro b3
  try dsimp only [setd, setn, ev, nth, over, cl, eI, eP, eT, List.map, List.append, List.drop, List.take]
  refine K.seq_pure (K.assign) rfl ?_
  dsimp only [setd, setn, ev, nth]
  refine K.seq_pure (K.assign) rfl ?_
  dsimp only [setd, setn, ev, nth]
  refine K.seq_nil ?_
  refine K.norm_then ?_
  refine K.seq ?_
  refine K.region_lit ?_
  refine K.seq_sil (K.loadA_own ag_41 rfl (K.m1) rfl) rfl ?_
  try dsimp only [setd, setn, ev, nth, over, cl, eI, eP, eT, List.map, List.append, List.drop, List.take]
  refine K.seq_sil (K.loadA_own ag_36 rfl (K.m0) rfl) rfl ?_
  try dsimp only [setd, setn, ev, nth, over, cl, eI, eP, eT, List.map, List.append, List.drop, List.take]
  refine K.seq_new (K.buildSlice (bs27 _ _)) rfl ?_
  intro b13
  try dsimp only [setd, setn, ev, nth, over, cl, eI, eP, eT, List.map, List.append, List.drop, List.take]
  refine K.seq_call (K.call_g cal_41 (fun F w hF hw => c58 (l := [(u, v)]) (hH.pass hw) (hR.pass hw) g (K.Rd.lit hw (hF _ (K.m0)) (fun _ => rfl) (by decide) rfl) (by simp))) rfl ?_
  try dsimp only [setd, setn, ev, nth, over, cl, eI, eP, eT, List.map, List.append, List.drop, List.take]
  refine K.seq_pure (K.move) rfl ?_
  dsimp only [setd, setn, ev, nth]
  refine K.seq_pure (K.extract rfl rfl) rfl ?_
  dsimp only [setd, setn, ev, nth]
  refine K.seq_pure (K.extract rfl rfl) rfl ?_
  dsimp only [setd, setn, ev, nth]
  refine K.seq_new (K.alloc zr_94) rfl ?_
  intro b6
  try dsimp only [setd, setn, ev, nth, over, cl, eI, eP, eT, List.map, List.append, List.drop, List.take]
  refine K.seq_st (K.store_all sz_94 rfl rfl rfl rfl (K.rp0)) rfl ?_
  try dsimp only [setd, setn, ev, nth, over, cl, eI, eP, eT, List.map, List.append, List.drop, List.take]
  refine K.seq_pure (K.assign) rfl ?_
  dsimp only [setd, setn, ev, nth]
  refine K.seq_nil ?_
  refine K.norm_then ?_
  refine K.seq ?_
  refine K.seq ?_
  refine K.region_lit ?_
  refine K.seq_pure (K.move) rfl ?_
  dsimp only [setd, setn, ev, nth]
  refine K.seq_pure (K.neq rfl rfl) rfl ?_
  dsimp only [setd, setn, ev, nth]
  refine K.seq_nil ?_
  refine K.norm_then ?_
  refine K.cond rfl (fun ht18 => ?_) (fun ht18 => ?_)
  · try replace ht18 := of_decide_eq_true ht18
    refine K.seq ?_
    refine K.region_lit ?_
    refine K.seq_pure (K.move) rfl ?_
    dsimp only [setd, setn, ev, nth]
    refine K.seq_pure (K.assign) rfl ?_
    dsimp only [setd, setn, ev, nth]
    refine K.seq_pure (K.assign) rfl ?_
    dsimp only [setd, setn, ev, nth]
    refine K.seq_nil ?_
    refine K.norm_then ?_
    refine K.ret ?_
    refine K.ret_then ?_
    refine K.end_ret (fun w _ => K.res_tmp2 rfl w) ?_
    exact K.rets_se0 (by rw [if_neg (by rw [← scsE1]; exact ht18)]) scsE1 rfl
  try replace ht18 := of_decide_eq_false ht18
  have hp : Parts u v := scE_parts (by have h1 := @scsE1 u v; omega)
  refine K.skip ?_
  refine K.norm_then ?_
  refine K.seq ?_
  refine K.region_lit ?_
  refine K.seq_sil (K.loadA_own ag_94 rfl (K.m0) rfl) rfl ?_
  try dsimp only [setd, setn, ev, nth, over, cl, eI, eP, eT, List.map, List.append, List.drop, List.take]
  refine K.seq_sil (K.loadA_own ag_36 rfl (K.m2) rfl) rfl ?_
  try dsimp only [setd, setn, ev, nth, over, cl, eI, eP, eT, List.map, List.append, List.drop, List.take]
  refine K.seq_call (K.call_g cal_42 (fun F w hF hw => c59 (hH.pass hw) g hp)) rfl ?_
  try dsimp only [setd, setn, ev, nth, over, cl, eI, eP, eT, List.map, List.append, List.drop, List.take]
  refine K.seq_pure (K.move) rfl ?_
  dsimp only [setd, setn, ev, nth]
  refine K.seq_pure (K.extract rfl rfl) rfl ?_
  dsimp only [setd, setn, ev, nth]
  refine K.seq_pure (K.extract rfl rfl) rfl ?_
  dsimp only [setd, setn, ev, nth]
  refine K.seq_new (K.alloc zr_98) rfl ?_
  intro b8
  try dsimp only [setd, setn, ev, nth, over, cl, eI, eP, eT, List.map, List.append, List.drop, List.take]
  refine K.seq_st (K.store_all sz_98 rfl rfl rfl rfl (K.rp0)) rfl ?_
  try dsimp only [setd, setn, ev, nth, over, cl, eI, eP, eT, List.map, List.append, List.drop, List.take]
  refine K.seq_pure (K.assign) rfl ?_
  dsimp only [setd, setn, ev, nth]
  refine K.seq_nil ?_
  refine K.norm_then ?_
  refine K.seq ?_
  refine K.region_lit ?_
  refine K.seq_pure (K.fieldAddr_lit fo_41_3 rfl) rfl ?_
  dsimp only [setd, setn, ev, nth]
  refine K.seq_sil (K.load1_own one_31 rfl (K.m4) rfl) rfl ?_
  try dsimp only [setd, setn, ev, nth, over, cl, eI, eP, eT, List.map, List.append, List.drop, List.take]
  refine K.seq_pure (K.len_sl sl_31 rfl) rfl ?_
  dsimp only [setd, setn, ev, nth]
  refine K.seq_pure (K.slice_ar (cuts kind base u v hs).length ar_98 rfl rfl (by rw [cuts_len]) (by rw [cuts_len]; omega)) rfl ?_
  try dsimp only [setd, setn, ev, nth, over, cl, eI, eP, eT, List.map, List.append, List.drop, List.take]
  refine K.seq_loud (K.call_f cal_43 (fun F w hF hw => c60 (xs := (cuts kind base u v hs)) (K.Rd.litp hw (hF _ (K.m0)) (fun _ => rfl) (by decide) (a8_flat (by rw [cuts_len]; omega))) (by rw [cuts_len]; omega))) rfl ?_
  rintro ⟨A2, c2⟩ hA2
  try dsimp only [setd, setn, ev, nth, over, cl, eI, eP, eT, List.map, List.append, List.drop, List.take]
  refine K.seq_pure (K.assign) rfl ?_
  dsimp only [setd, setn, ev, nth]
  refine K.seq_pure (K.assign) rfl ?_
  dsimp only [setd, setn, ev, nth]
  refine K.seq_nil ?_
  refine K.norm_then ?_
  refine K.ret ?_
  refine K.end_ret (fun w _ => K.res_tmp2 rfl w) ?_
  have hs0 : scE u v = 0 := (by have h1 := @scsE1 u v; omega)
  rw [if_pos hs0, hs0]
  exact K.rets_se (List.Mem.head _) rfl rfl rfl rfl

theorem c17 {kind base most : Int} {A B : Option Addr} {c d : Nat} {hs : List Int} {rs : List (Int × Int)} {u v : Int} {w : World} (hH : K.Rd w A 1 K.eI hs) (hR : K.Rd w B 2 K.eP rs) (hn : hs.length ≤ 4611686018427387904) (hm : rs.length ≤ 4611686018427387904) : Calls Try.prog 10 [.agg #[.int .i64 kind, .int .i64 base, .int .i64 most, .slice A hs.length c, .slice B rs.length d], .agg #[.int .i64 u, .int .i64 v]].toArray w (K.RetSE 3 1 K.eI (cutsR kind base most hs rs u v) (askE kind base most hs rs u v) w) := by
  by_cases he : (chk kind base most hs rs).2.2 = 0
  · have h := g17 (A := A) (B := B) (c := c) (d := d) (u := u) (v := v) (w := w) hH hR (chk_good he)
    have g := chk_good he
    rw [← askE_good g] at h
    exact h
  · have h := e17 (A := A) (B := B) (c := c) (d := d) (u := u) (v := v) (w := w) hH hR hn hm he
    have e : cutsR kind base most hs rs u v = [] := by unfold cutsR; rw [if_neg (by rw [askE_bad he]; exact he)]
    rw [e, askE_bad he]
    exact h


set_option maxRecDepth 100000 in
theorem e20 {kind base most : Int} {A B : Option Addr} {c d : Nat} {hs : List Int} {rs : List (Int × Int)} {u v : Int} {w : World} (hH : K.Rd w A 1 K.eI hs) (hR : K.Rd w B 2 K.eP rs) (hn : hs.length ≤ 4611686018427387904) (hm : rs.length ≤ 4611686018427387904) (he : (chk kind base most hs rs).2.2 ≠ 0) :
    Calls Try.prog 30 [.agg #[.int .i64 kind, .int .i64 base, .int .i64 most, .slice A hs.length c, .slice B rs.length d], .agg #[.int .i64 u, .int .i64 v]].toArray w (K.RetSE 3 1 K.eI ([] : List Int) (chk kind base most hs rs).2.2 w) := by
  refine K.enter (args := [.agg #[.int .i64 kind, .int .i64 base, .int .i64 most, .slice A hs.length c, .slice B rs.length d], .agg #[.int .i64 u, .int .i64 v]]) Try.func30 rfl (n := 42) rfl ?_
  simp only [List.replicate, List.cons_append, List.nil_append]
  refine K.seq ?_
  refine K.region_lit ?_
  refine K.seq_new (K.box) rfl ?_
  intro b2
  try dsimp only [setd, setn, ev, nth, over, cl, eI, eP, eT, List.map, List.append, List.drop, List.take]
  refine K.seq_new (K.box) rfl ?_
  intro b3
  try dsimp only [setd, setn, ev, nth, over, cl, eI, eP, eT, List.map, List.append, List.drop, List.take]
  refine K.seq_pure (K.assign) rfl ?_
  dsimp only [setd, setn, ev, nth]
  refine K.seq_pure (K.assign) rfl ?_
  dsimp only [setd, setn, ev, nth]
  refine K.seq_nil ?_
  refine K.norm_then ?_
  refine K.seq ?_
  refine K.region_lit ?_
  refine K.seq_sil (K.loadA_own ag_41 rfl (K.m1) rfl) rfl ?_
  try dsimp only [setd, setn, ev, nth, over, cl, eI, eP, eT, List.map, List.append, List.drop, List.take]
  refine K.seq_sil (K.loadA_own ag_36 rfl (K.m0) rfl) rfl ?_
  try dsimp only [setd, setn, ev, nth, over, cl, eI, eP, eT, List.map, List.append, List.drop, List.take]
  refine K.seq_new (K.buildSlice (bs27 _ _)) rfl ?_
  intro b14
  try dsimp only [setd, setn, ev, nth, over, cl, eI, eP, eT, List.map, List.append, List.drop, List.take]
  refine K.seq_call (K.call_g cal_41 (fun F w hF hw => e58 (l := [(u, v)]) (hH.pass hw) (hR.pass hw) hn hm he)) rfl ?_
  try dsimp only [setd, setn, ev, nth, over, cl, eI, eP, eT, List.map, List.append, List.drop, List.take]
  refine K.seq_pure (K.move) rfl ?_
  dsimp only [setd, setn, ev, nth]
  refine K.seq_pure (K.extract rfl rfl) rfl ?_
  dsimp only [setd, setn, ev, nth]
  refine K.seq_pure (K.extract rfl rfl) rfl ?_
  dsimp only [setd, setn, ev, nth]
  refine K.seq_new (K.alloc zr_94) rfl ?_
  intro b6
  try dsimp only [setd, setn, ev, nth, over, cl, eI, eP, eT, List.map, List.append, List.drop, List.take]
  refine K.seq_st (K.store_all sz_94 rfl rfl rfl rfl (K.rp0)) rfl ?_
  try dsimp only [setd, setn, ev, nth, over, cl, eI, eP, eT, List.map, List.append, List.drop, List.take]
  refine K.seq_pure (K.assign) rfl ?_
  dsimp only [setd, setn, ev, nth]
  refine K.seq_nil ?_
  refine K.norm_then ?_
  refine K.seq ?_
  refine K.seq ?_
  refine K.region_lit ?_
  refine K.seq_pure (K.move) rfl ?_
  dsimp only [setd, setn, ev, nth]
  refine K.seq_pure (K.neq rfl rfl) rfl ?_
  dsimp only [setd, setn, ev, nth]
  refine K.seq_nil ?_
  refine K.norm_then ?_
  refine K.cond rfl (fun ht19 => ?_) (fun ht19 => ?_)
  · try replace ht19 := of_decide_eq_true ht19
    refine K.seq ?_
    refine K.region_lit ?_
    refine K.seq_pure (K.move) rfl ?_
    dsimp only [setd, setn, ev, nth]
    refine K.seq_pure (K.assign) rfl ?_
    dsimp only [setd, setn, ev, nth]
    refine K.seq_pure (K.assign) rfl ?_
    dsimp only [setd, setn, ev, nth]
    refine K.seq_nil ?_
    refine K.norm_then ?_
    refine K.ret ?_
    refine K.ret_then ?_
    refine K.end_ret (fun w _ => K.res_tmp2 rfl w) ?_
    exact K.rets_se0 rfl rfl rfl
  try replace ht19 := of_decide_eq_false ht19
  exact absurd he ht19

set_option maxRecDepth 100000 in
theorem g20 {kind base most : Int} {A B : Option Addr} {c d : Nat} {hs : List Int} {rs : List (Int × Int)} {u v : Int} {w : World} (hH : K.Rd w A 1 K.eI hs) (hR : K.Rd w B 2 K.eP rs) (g : Good kind base most hs rs) :
    Calls Try.prog 30 [.agg #[.int .i64 kind, .int .i64 base, .int .i64 most, .slice A hs.length c, .slice B rs.length d], .agg #[.int .i64 u, .int .i64 v]].toArray w (K.RetSE 3 1 K.eI (if scE u v = 0 then offs u v hs (cuts kind base u v hs) rs else []) (scE u v) w) := by
  have g1 := g.k
  have g2 := g.n
  have g3 := g.r
  have g4 := g.b
  have g5 := g.m
  refine K.enter (args := [.agg #[.int .i64 kind, .int .i64 base, .int .i64 most, .slice A hs.length c, .slice B rs.length d], .agg #[.int .i64 u, .int .i64 v]]) Try.func30 rfl (n := 42) rfl ?_
  simp only [List.replicate, List.cons_append, List.nil_append]
  refine K.seq ?_
  refine K.region_lit ?_
  refine K.seq_new (K.box) rfl ?_
  intro b2
  try dsimp only [setd, setn, ev, nth, over, cl, eI, eP, eT, List.map, List.append, List.drop, List.take]
  refine K.seq_new (K.box) rfl ?_
  intro b3
  try dsimp only [setd, setn, ev, nth, over, cl, eI, eP, eT, List.map, List.append, List.drop, List.take]
  refine K.seq_pure (K.assign) rfl ?_
  dsimp only [setd, setn, ev, nth]
  refine K.seq_pure (K.assign) rfl ?_
  dsimp only [setd, setn, ev, nth]
  refine K.seq_nil ?_
  refine K.norm_then ?_
  refine K.seq ?_
  refine K.region_lit ?_
  refine K.seq_sil (K.loadA_own ag_41 rfl (K.m1) rfl) rfl ?_
  try dsimp only [setd, setn, ev, nth, over, cl, eI, eP, eT, List.map, List.append, List.drop, List.take]
  refine K.seq_sil (K.loadA_own ag_36 rfl (K.m0) rfl) rfl ?_
  try dsimp only [setd, setn, ev, nth, over, cl, eI, eP, eT, List.map, List.append, List.drop, List.take]
  refine K.seq_new (K.buildSlice (bs27 _ _)) rfl ?_
  intro b14
  try dsimp only [setd, setn, ev, nth, over, cl, eI, eP, eT, List.map, List.append, List.drop, List.take]
  refine K.seq_call (K.call_g cal_41 (fun F w hF hw => c58 (l := [(u, v)]) (hH.pass hw) (hR.pass hw) g (K.Rd.lit hw (hF _ (K.m0)) (fun _ => rfl) (by decide) rfl) (by simp))) rfl ?_
  try dsimp only [setd, setn, ev, nth, over, cl, eI, eP, eT, List.map, List.append, List.drop, List.take]
  refine K.seq_pure (K.move) rfl ?_
  dsimp only [setd, setn, ev, nth]
  refine K.seq_pure (K.extract rfl rfl) rfl ?_
  dsimp only [setd, setn, ev, nth]
  refine K.seq_pure (K.extract rfl rfl) rfl ?_
  dsimp only [setd, setn, ev, nth]
  refine K.seq_new (K.alloc zr_94) rfl ?_
  intro b6
  try dsimp only [setd, setn, ev, nth, over, cl, eI, eP, eT, List.map, List.append, List.drop, List.take]
  refine K.seq_st (K.store_all sz_94 rfl rfl rfl rfl (K.rp0)) rfl ?_
  try dsimp only [setd, setn, ev, nth, over, cl, eI, eP, eT, List.map, List.append, List.drop, List.take]
  refine K.seq_pure (K.assign) rfl ?_
  dsimp only [setd, setn, ev, nth]
  refine K.seq_nil ?_
  refine K.norm_then ?_
  refine K.seq ?_
  refine K.seq ?_
  refine K.region_lit ?_
  refine K.seq_pure (K.move) rfl ?_
  dsimp only [setd, setn, ev, nth]
  refine K.seq_pure (K.neq rfl rfl) rfl ?_
  dsimp only [setd, setn, ev, nth]
  refine K.seq_nil ?_
  refine K.norm_then ?_
  refine K.cond rfl (fun ht19 => ?_) (fun ht19 => ?_)
  · try replace ht19 := of_decide_eq_true ht19
    refine K.seq ?_
    refine K.region_lit ?_
    refine K.seq_pure (K.move) rfl ?_
    dsimp only [setd, setn, ev, nth]
    refine K.seq_pure (K.assign) rfl ?_
    dsimp only [setd, setn, ev, nth]
    refine K.seq_pure (K.assign) rfl ?_
    dsimp only [setd, setn, ev, nth]
    refine K.seq_nil ?_
    refine K.norm_then ?_
    refine K.ret ?_
    refine K.ret_then ?_
    refine K.end_ret (fun w _ => K.res_tmp2 rfl w) ?_
    exact K.rets_se0 (by rw [if_neg (by rw [← scsE1]; exact ht19)]) scsE1 rfl
  try replace ht19 := of_decide_eq_false ht19
  have hp : Parts u v := scE_parts (by have h1 := @scsE1 u v; omega)
  refine K.skip ?_
  refine K.norm_then ?_
  refine K.seq ?_
  refine K.region_lit ?_
  refine K.seq_sil (K.loadA_own ag_94 rfl (K.m0) rfl) rfl ?_
  try dsimp only [setd, setn, ev, nth, over, cl, eI, eP, eT, List.map, List.append, List.drop, List.take]
  refine K.seq_sil (K.loadA_own ag_36 rfl (K.m2) rfl) rfl ?_
  try dsimp only [setd, setn, ev, nth, over, cl, eI, eP, eT, List.map, List.append, List.drop, List.take]
  refine K.seq_call (K.call_g cal_42 (fun F w hF hw => c59 (hH.pass hw) g hp)) rfl ?_
  try dsimp only [setd, setn, ev, nth, over, cl, eI, eP, eT, List.map, List.append, List.drop, List.take]
  refine K.seq_pure (K.move) rfl ?_
  dsimp only [setd, setn, ev, nth]
  refine K.seq_pure (K.extract rfl rfl) rfl ?_
  dsimp only [setd, setn, ev, nth]
  refine K.seq_pure (K.extract rfl rfl) rfl ?_
  dsimp only [setd, setn, ev, nth]
  refine K.seq_new (K.alloc zr_98) rfl ?_
  intro b7
  try dsimp only [setd, setn, ev, nth, over, cl, eI, eP, eT, List.map, List.append, List.drop, List.take]
  refine K.seq_st (K.store_all sz_98 rfl rfl rfl rfl (K.rp0)) rfl ?_
  try dsimp only [setd, setn, ev, nth, over, cl, eI, eP, eT, List.map, List.append, List.drop, List.take]
  refine K.seq_pure (K.assign) rfl ?_
  dsimp only [setd, setn, ev, nth]
  refine K.seq_nil ?_
  refine K.norm_then ?_
  refine K.seq ?_
  refine K.seq ?_
  refine K.region_lit ?_
  refine K.nil_row (e := 3) (size := 1) ?_
  refine K.seq_pure (K.fieldAddr_lit fo_41_4 rfl) rfl ?_
  dsimp only [setd, setn, ev, nth]
  refine K.seq_sil (K.load1_own one_39 rfl (K.m5) rfl) rfl ?_
  try dsimp only [setd, setn, ev, nth, over, cl, eI, eP, eT, List.map, List.append, List.drop, List.take]
  refine K.seq_pure (K.len_sl sl_39 rfl) rfl ?_
  dsimp only [setd, setn, ev, nth]
  refine K.seq_pure (K.move) rfl ?_
  dsimp only [setd, setn, ev, nth]
  refine K.seq_nil ?_
  refine K.norm_then ?_
  refine K.block ?_
  refine K.loopW [4, 30] [10, 31, 32, 33, 34, 35, 36, 37, 38, 39, 40, 41, 42] (fun vi L => ∃ (k : Nat) (Q1 : Option Addr) (q1 : Nat) (ys : List Value), vi = [.slice Q1 k q1, .int .i64 (k : Int)] ∧ L = [K.row (.slice Q1 k q1) 3 1 k ys, K.blk b7 98 (a8 (cuts kind base u v hs)), K.blk b6 94 [.int .i64 kind, .int .i64 base, .int .i64 most, .slice A hs.length c, .slice B rs.length d, .func (.func (90 + kind.toNat)) #[] #[]], K.blk b14 36 [.int .i64 u, .int .i64 v], K.blk b3 36 [.int .i64 u, .int .i64 v], K.blk b2 41 [.int .i64 kind, .int .i64 base, .int .i64 most, .slice A hs.length c, .slice B rs.length d]] ∧ ys = ((rs.take k).map (fun r => offS u v (riseS hs r) (riseS (cuts kind base u v hs) r))).flatMap K.eI ∧ k ≤ rs.length) (fun vi => rs.length - (intOf (K.nth vi 1)).toNat) ?_ ?_
  · exact ⟨0, none, 0, [], rfl, rfl, rfl, Nat.zero_le _⟩
  intro vi vr L hJ
  obtain ⟨k, Q1, q1, ys, rfl, rfl, hys, hkn⟩ := hJ
  try dsimp only [setd, setn, ev, nth, over, cl, eI, eP, eT, setM, setF, List.map, List.append, List.drop, List.take]
  refine K.seq ?_
  refine K.region_lit ?_
  refine K.seq_pure (K.lss rfl rfl) rfl ?_
  dsimp only [setd, setn, ev, nth]
  refine K.seq_nil ?_
  refine K.norm_then ?_
  refine K.seq ?_
  refine K.cond rfl (fun ht31 => ?_) (fun ht31 => ?_)
  · try replace ht31 := of_decide_eq_true ht31
    have hk : k < rs.length := by omega
    refine K.skip ?_
    refine K.norm_then ?_
    refine K.seq ?_
    refine K.block ?_
    refine K.seq ?_
    refine K.region_lit ?_
    refine K.seq_ix (M := []) _ hR.sl sl_39 rfl rfl rfl (by omega) rfl ?_
    intro p32 hp32
    try dsimp only [setd, setn, ev, nth, over, cl, eI, eP, eT, List.map, List.append, List.drop, List.take]
    refine K.seq_sil (K.loadA_p ag_124 rfl (hp32.any) rfl) rfl ?_
    try dsimp only [setd, setn, ev, nth, over, cl, eI, eP, eT, List.map, List.append, List.drop, List.take]
    refine K.seq_new (K.alloc zr_124) rfl ?_
    intro b10
    try dsimp only [setd, setn, ev, nth, over, cl, eI, eP, eT, List.map, List.append, List.drop, List.take]
    refine K.seq_st (K.store_all sz_124 rfl rfl rfl rfl (K.rp0)) rfl ?_
    try dsimp only [setd, setn, ev, nth, over, cl, eI, eP, eT, List.map, List.append, List.drop, List.take]
    refine K.seq_nil ?_
    refine K.norm_then ?_
    refine K.region_lit ?_
    refine K.seq_pure (K.move) rfl ?_
    dsimp only [setd, setn, ev, nth]
    refine K.seq_sil (K.loadA_own ag_94 rfl (K.m3) rfl) rfl ?_
    try dsimp only [setd, setn, ev, nth, over, cl, eI, eP, eT, List.map, List.append, List.drop, List.take]
    refine K.seq_sil (K.loadA_own ag_124 rfl (K.m0) rfl) rfl ?_
    try dsimp only [setd, setn, ev, nth, over, cl, eI, eP, eT, List.map, List.append, List.drop, List.take]
    refine K.seq_sil (K.loadA_own ag_36 rfl (K.m5) rfl) rfl ?_
    try dsimp only [setd, setn, ev, nth, over, cl, eI, eP, eT, List.map, List.append, List.drop, List.take]
    refine K.seq_sil (K.loadA_own ag_98 rfl ((K.m2)) rfl) rfl ?_
    try dsimp only [setd, setn, ev, nth, over, cl, eI, eP, eT, List.map, List.append, List.drop, List.take]
    refine K.seq_call (K.call_g cal_57 (fun F w hF hw => c62 (r := rs.getD k default) (cs := (cuts kind base u v hs)) (hH.pass hw) (g.road4 hk) (by omega) g.bdh (g.bdc hp) hp)) rfl ?_
    try dsimp only [setd, setn, ev, nth, over, cl, eI, eP, eT, List.map, List.append, List.drop, List.take]
    refine K.seq_new (K.buildSlice (bs1 _)) rfl ?_
    intro b40
    try dsimp only [setd, setn, ev, nth, over, cl, eI, eP, eT, List.map, List.append, List.drop, List.take]
    refine K.seq_upd (K.append el_31 rfl rfl (K.PtrL.own' (K.m0)) rfl rfl (by decide) (by omega) (by omega) (fun _ _ => K.rp2)) rfl ?_
    rintro ⟨g41, c41⟩ _
    try dsimp only [setd, setn, ev, nth, over, cl, eI, eP, eT, List.map, List.append, List.drop, List.take]
    refine K.seq_pure (K.assign) rfl ?_
    dsimp only [setd, setn, ev, nth]
    refine K.seq_nil ?_
    refine K.norm_block ?_
    refine K.norm_then ?_
    refine K.region_lit ?_
    refine K.seq_pure (K.add_i64 rfl rfl (by omega)) rfl ?_
    dsimp only [setd, setn, ev, nth]
    refine K.seq_pure (K.move) rfl ?_
    dsimp only [setd, setn, ev, nth]
    refine K.seq_nil ?_
    exact K.round_endW [.slice (some ⟨g41, 0, none⟩) (k + 1) c41, .int .i64 ((k : Int) + 1)] ⟨k + 1, _, _, _, rfl, rfl, by rw [take_succ_map _ hk, List.flatMap_append, ← hys], by omega⟩ (by simp [K.nth, intOf]; omega) (by repeat (first | exact List.Sublist.refl _ | apply List.Sublist.cons)) (by kernel_rfl)
  try replace ht31 := of_decide_eq_false ht31
  refine K.exit ?_
  refine K.exit_then ?_
  refine K.exit_then ?_
  refine K.exit_here ?_
  refine K.norm_then ?_
  refine K.seq ?_
  refine K.region_lit ?_
  refine K.seq_pure (K.move) rfl ?_
  dsimp only [setd, setn, ev, nth]
  refine K.seq_pure (K.assign) rfl ?_
  dsimp only [setd, setn, ev, nth]
  refine K.seq_pure (K.assign) rfl ?_
  dsimp only [setd, setn, ev, nth]
  refine K.seq_nil ?_
  refine K.norm_then ?_
  refine K.ret ?_
  refine K.end_ret (fun w _ => K.res_tmp2 rfl w) ?_
  have hs0 : scE u v = 0 := (by have h1 := @scsE1 u v; omega)
  rw [if_pos hs0, hs0]
  exact K.rets_se (List.Mem.head _) (by unfold offs; rw [List.length_map]; omega) (by rw [hys, take_all (xs := rs) (by omega)]; rfl) rfl rfl

theorem c20 {kind base most : Int} {A B : Option Addr} {c d : Nat} {hs : List Int} {rs : List (Int × Int)} {u v : Int} {w : World} (hH : K.Rd w A 1 K.eI hs) (hR : K.Rd w B 2 K.eP rs) (hn : hs.length ≤ 4611686018427387904) (hm : rs.length ≤ 4611686018427387904) : Calls Try.prog 30 [.agg #[.int .i64 kind, .int .i64 base, .int .i64 most, .slice A hs.length c, .slice B rs.length d], .agg #[.int .i64 u, .int .i64 v]].toArray w (K.RetSE 3 1 K.eI (offsR kind base most hs rs u v) (askE kind base most hs rs u v) w) := by
  by_cases he : (chk kind base most hs rs).2.2 = 0
  · have h := g20 (A := A) (B := B) (c := c) (d := d) (u := u) (v := v) (w := w) hH hR (chk_good he)
    have g := chk_good he
    rw [← askE_good g] at h
    exact h
  · have h := e20 (A := A) (B := B) (c := c) (d := d) (u := u) (v := v) (w := w) hH hR hn hm he
    have e : offsR kind base most hs rs u v = [] := by unfold offsR; rw [if_neg (by rw [askE_bad he]; exact he)]
    rw [e, askE_bad he]
    exact h


set_option maxRecDepth 100000 in
theorem e22 {kind base most : Int} {A B : Option Addr} {c d : Nat} {hs : List Int} {rs : List (Int × Int)} {u v : Int} {w : World} (hH : K.Rd w A 1 K.eI hs) (hR : K.Rd w B 2 K.eP rs) (hn : hs.length ≤ 4611686018427387904) (hm : rs.length ≤ 4611686018427387904) (he : (chk kind base most hs rs).2.2 ≠ 0) :
    Calls Try.prog 31 [.agg #[.int .i64 kind, .int .i64 base, .int .i64 most, .slice A hs.length c, .slice B rs.length d], .agg #[.int .i64 u, .int .i64 v]].toArray w (K.RetSE 3 1 K.eI ([] : List Int) (chk kind base most hs rs).2.2 w) := by
  refine K.enter (args := [.agg #[.int .i64 kind, .int .i64 base, .int .i64 most, .slice A hs.length c, .slice B rs.length d], .agg #[.int .i64 u, .int .i64 v]]) Try.func31 rfl (n := 27) rfl ?_
  simp only [List.replicate, List.cons_append, List.nil_append]
  refine K.seq ?_
  refine K.region_lit ?_
  refine K.seq_new (K.box) rfl ?_
  intro b2
  try dsimp only [setd, setn, ev, nth, over, cl, eI, eP, eT, List.map, List.append, List.drop, List.take]
  refine K.seq_new (K.box) rfl ?_
  intro b3
  try dsimp only [setd, setn, ev, nth, over, cl, eI, eP, eT, List.map, List.append, List.drop, List.take]
  refine K.seq_pure (K.assign) rfl ?_
  dsimp only [setd, setn, ev, nth]
  refine K.seq_pure (K.assign) rfl ?_
  dsimp only [setd, setn, ev, nth]
  refine K.seq_nil ?_
  refine K.norm_then ?_
  refine K.seq ?_
  refine K.region_lit ?_
  refine K.seq_sil (K.loadA_own ag_41 rfl (K.m1) rfl) rfl ?_
  try dsimp only [setd, setn, ev, nth, over, cl, eI, eP, eT, List.map, List.append, List.drop, List.take]
  refine K.seq_sil (K.loadA_own ag_36 rfl (K.m0) rfl) rfl ?_
  try dsimp only [setd, setn, ev, nth, over, cl, eI, eP, eT, List.map, List.append, List.drop, List.take]
  refine K.seq_new (K.buildSlice (bs27 _ _)) rfl ?_
  intro b13
  try dsimp only [setd, setn, ev, nth, over, cl, eI, eP, eT, List.map, List.append, List.drop, List.take]
  refine K.seq_call (K.call_g cal_41 (fun F w hF hw => e58 (l := [(u, v)]) (hH.pass hw) (hR.pass hw) hn hm he)) rfl ?_
  try dsimp only [setd, setn, ev, nth, over, cl, eI, eP, eT, List.map, List.append, List.drop, List.take]
  refine K.seq_pure (K.move) rfl ?_
  dsimp only [setd, setn, ev, nth]
  refine K.seq_pure (K.extract rfl rfl) rfl ?_
  dsimp only [setd, setn, ev, nth]
  refine K.seq_pure (K.extract rfl rfl) rfl ?_
  dsimp only [setd, setn, ev, nth]
  refine K.seq_new (K.alloc zr_94) rfl ?_
  intro b6
  try dsimp only [setd, setn, ev, nth, over, cl, eI, eP, eT, List.map, List.append, List.drop, List.take]
  refine K.seq_st (K.store_all sz_94 rfl rfl rfl rfl (K.rp0)) rfl ?_
  try dsimp only [setd, setn, ev, nth, over, cl, eI, eP, eT, List.map, List.append, List.drop, List.take]
  refine K.seq_pure (K.assign) rfl ?_
  dsimp only [setd, setn, ev, nth]
  refine K.seq_nil ?_
  refine K.norm_then ?_
  refine K.seq ?_
  refine K.seq ?_
  refine K.region_lit ?_
  refine K.seq_pure (K.move) rfl ?_
  dsimp only [setd, setn, ev, nth]
  refine K.seq_pure (K.neq rfl rfl) rfl ?_
  dsimp only [setd, setn, ev, nth]
  refine K.seq_nil ?_
  refine K.norm_then ?_
  refine K.cond rfl (fun ht18 => ?_) (fun ht18 => ?_)
  · try replace ht18 := of_decide_eq_true ht18
    refine K.seq ?_
    refine K.region_lit ?_
    refine K.seq_pure (K.move) rfl ?_
    dsimp only [setd, setn, ev, nth]
    refine K.seq_pure (K.assign) rfl ?_
    dsimp only [setd, setn, ev, nth]
    refine K.seq_pure (K.assign) rfl ?_
    dsimp only [setd, setn, ev, nth]
    refine K.seq_nil ?_
    refine K.norm_then ?_
    refine K.ret ?_
    refine K.ret_then ?_
    refine K.end_ret (fun w _ => K.res_tmp2 rfl w) ?_
    exact K.rets_se0 rfl rfl rfl
  try replace ht18 := of_decide_eq_false ht18
  exact absurd he ht18

set_option maxRecDepth 100000 in
theorem g22 {kind base most : Int} {A B : Option Addr} {c d : Nat} {hs : List Int} {rs : List (Int × Int)} {u v : Int} {w : World} (hH : K.Rd w A 1 K.eI hs) (hR : K.Rd w B 2 K.eP rs) (g : Good kind base most hs rs) :
    Calls Try.prog 31 [.agg #[.int .i64 kind, .int .i64 base, .int .i64 most, .slice A hs.length c, .slice B rs.length d], .agg #[.int .i64 u, .int .i64 v]].toArray w (K.RetSE 3 1 K.eI (if scE u v = 0 then flats hs (cuts kind base u v hs) rs else []) (scE u v) w) := by
  have g1 := g.k
  have g2 := g.n
  have g3 := g.r
  have g4 := g.b
  have g5 := g.m
  refine K.enter (args := [.agg #[.int .i64 kind, .int .i64 base, .int .i64 most, .slice A hs.length c, .slice B rs.length d], .agg #[.int .i64 u, .int .i64 v]]) Try.func31 rfl (n := 27) rfl ?_
  simp only [List.replicate, List.cons_append, List.nil_append]
  refine K.seq ?_
  refine K.region_lit ?_
  refine K.seq_new (K.box) rfl ?_
  intro b2
  try dsimp only [setd, setn, ev, nth, over, cl, eI, eP, eT, List.map, List.append, List.drop, List.take]
  refine K.seq_new (K.box) rfl ?_
  intro b3
  try dsimp only [setd, setn, ev, nth, over, cl, eI, eP, eT, List.map, List.append, List.drop, List.take]
  refine K.seq_pure (K.assign) rfl ?_
  dsimp only [setd, setn, ev, nth]
  refine K.seq_pure (K.assign) rfl ?_
  dsimp only [setd, setn, ev, nth]
  refine K.seq_nil ?_
  refine K.norm_then ?_
  refine K.seq ?_
  refine K.region_lit ?_
  refine K.seq_sil (K.loadA_own ag_41 rfl (K.m1) rfl) rfl ?_
  try dsimp only [setd, setn, ev, nth, over, cl, eI, eP, eT, List.map, List.append, List.drop, List.take]
  refine K.seq_sil (K.loadA_own ag_36 rfl (K.m0) rfl) rfl ?_
  try dsimp only [setd, setn, ev, nth, over, cl, eI, eP, eT, List.map, List.append, List.drop, List.take]
  refine K.seq_new (K.buildSlice (bs27 _ _)) rfl ?_
  intro b13
  try dsimp only [setd, setn, ev, nth, over, cl, eI, eP, eT, List.map, List.append, List.drop, List.take]
  refine K.seq_call (K.call_g cal_41 (fun F w hF hw => c58 (l := [(u, v)]) (hH.pass hw) (hR.pass hw) g (K.Rd.lit hw (hF _ (K.m0)) (fun _ => rfl) (by decide) rfl) (by simp))) rfl ?_
  try dsimp only [setd, setn, ev, nth, over, cl, eI, eP, eT, List.map, List.append, List.drop, List.take]
  refine K.seq_pure (K.move) rfl ?_
  dsimp only [setd, setn, ev, nth]
  refine K.seq_pure (K.extract rfl rfl) rfl ?_
  dsimp only [setd, setn, ev, nth]
  refine K.seq_pure (K.extract rfl rfl) rfl ?_
  dsimp only [setd, setn, ev, nth]
  refine K.seq_new (K.alloc zr_94) rfl ?_
  intro b6
  try dsimp only [setd, setn, ev, nth, over, cl, eI, eP, eT, List.map, List.append, List.drop, List.take]
  refine K.seq_st (K.store_all sz_94 rfl rfl rfl rfl (K.rp0)) rfl ?_
  try dsimp only [setd, setn, ev, nth, over, cl, eI, eP, eT, List.map, List.append, List.drop, List.take]
  refine K.seq_pure (K.assign) rfl ?_
  dsimp only [setd, setn, ev, nth]
  refine K.seq_nil ?_
  refine K.norm_then ?_
  refine K.seq ?_
  refine K.seq ?_
  refine K.region_lit ?_
  refine K.seq_pure (K.move) rfl ?_
  dsimp only [setd, setn, ev, nth]
  refine K.seq_pure (K.neq rfl rfl) rfl ?_
  dsimp only [setd, setn, ev, nth]
  refine K.seq_nil ?_
  refine K.norm_then ?_
  refine K.cond rfl (fun ht18 => ?_) (fun ht18 => ?_)
  · try replace ht18 := of_decide_eq_true ht18
    refine K.seq ?_
    refine K.region_lit ?_
    refine K.seq_pure (K.move) rfl ?_
    dsimp only [setd, setn, ev, nth]
    refine K.seq_pure (K.assign) rfl ?_
    dsimp only [setd, setn, ev, nth]
    refine K.seq_pure (K.assign) rfl ?_
    dsimp only [setd, setn, ev, nth]
    refine K.seq_nil ?_
    refine K.norm_then ?_
    refine K.ret ?_
    refine K.ret_then ?_
    refine K.end_ret (fun w _ => K.res_tmp2 rfl w) ?_
    exact K.rets_se0 (by rw [if_neg (by rw [← scsE1]; exact ht18)]) scsE1 rfl
  try replace ht18 := of_decide_eq_false ht18
  have hp : Parts u v := scE_parts (by have h1 := @scsE1 u v; omega)
  refine K.skip ?_
  refine K.norm_then ?_
  refine K.seq ?_
  refine K.region_lit ?_
  refine K.seq_sil (K.loadA_own ag_94 rfl (K.m0) rfl) rfl ?_
  try dsimp only [setd, setn, ev, nth, over, cl, eI, eP, eT, List.map, List.append, List.drop, List.take]
  refine K.seq_sil (K.loadA_own ag_36 rfl (K.m2) rfl) rfl ?_
  try dsimp only [setd, setn, ev, nth, over, cl, eI, eP, eT, List.map, List.append, List.drop, List.take]
  refine K.seq_call (K.call_g cal_42 (fun F w hF hw => c59 (hH.pass hw) g hp)) rfl ?_
  try dsimp only [setd, setn, ev, nth, over, cl, eI, eP, eT, List.map, List.append, List.drop, List.take]
  refine K.seq_pure (K.move) rfl ?_
  dsimp only [setd, setn, ev, nth]
  refine K.seq_pure (K.extract rfl rfl) rfl ?_
  dsimp only [setd, setn, ev, nth]
  refine K.seq_pure (K.extract rfl rfl) rfl ?_
  dsimp only [setd, setn, ev, nth]
  refine K.seq_new (K.alloc zr_98) rfl ?_
  intro b8
  try dsimp only [setd, setn, ev, nth, over, cl, eI, eP, eT, List.map, List.append, List.drop, List.take]
  refine K.seq_st (K.store_all sz_98 rfl rfl rfl rfl (K.rp0)) rfl ?_
  try dsimp only [setd, setn, ev, nth, over, cl, eI, eP, eT, List.map, List.append, List.drop, List.take]
  refine K.seq_pure (K.assign) rfl ?_
  dsimp only [setd, setn, ev, nth]
  refine K.seq_nil ?_
  refine K.norm_then ?_
  refine K.seq ?_
  refine K.region_lit ?_
  refine K.seq_sil (K.loadA_own ag_94 rfl (K.m1) rfl) rfl ?_
  try dsimp only [setd, setn, ev, nth, over, cl, eI, eP, eT, List.map, List.append, List.drop, List.take]
  refine K.seq_sil (K.loadA_own ag_98 rfl ((K.m0)) rfl) rfl ?_
  try dsimp only [setd, setn, ev, nth, over, cl, eI, eP, eT, List.map, List.append, List.drop, List.take]
  refine K.seq_loud (K.call_f cal_58 (fun F w hF hw => c64 (cs := (cuts kind base u v hs)) (hH.pass hw) (hR.pass hw) (by omega) g.bdh (g.bdc hp) (fun i hi => g.road4 hi) (by omega))) rfl ?_
  rintro ⟨A2, c2⟩ hA2
  try dsimp only [setd, setn, ev, nth, over, cl, eI, eP, eT, List.map, List.append, List.drop, List.take]
  refine K.seq_pure (K.assign) rfl ?_
  dsimp only [setd, setn, ev, nth]
  refine K.seq_pure (K.assign) rfl ?_
  dsimp only [setd, setn, ev, nth]
  refine K.seq_nil ?_
  refine K.norm_then ?_
  refine K.ret ?_
  refine K.end_ret (fun w _ => K.res_tmp2 rfl w) ?_
  have hs0 : scE u v = 0 := (by have h1 := @scsE1 u v; omega)
  rw [if_pos hs0, hs0]
  exact K.rets_se (List.Mem.head _) rfl rfl rfl rfl

theorem c22 {kind base most : Int} {A B : Option Addr} {c d : Nat} {hs : List Int} {rs : List (Int × Int)} {u v : Int} {w : World} (hH : K.Rd w A 1 K.eI hs) (hR : K.Rd w B 2 K.eP rs) (hn : hs.length ≤ 4611686018427387904) (hm : rs.length ≤ 4611686018427387904) : Calls Try.prog 31 [.agg #[.int .i64 kind, .int .i64 base, .int .i64 most, .slice A hs.length c, .slice B rs.length d], .agg #[.int .i64 u, .int .i64 v]].toArray w (K.RetSE 3 1 K.eI (flatsR kind base most hs rs u v) (askE kind base most hs rs u v) w) := by
  by_cases he : (chk kind base most hs rs).2.2 = 0
  · have h := g22 (A := A) (B := B) (c := c) (d := d) (u := u) (v := v) (w := w) hH hR (chk_good he)
    have g := chk_good he
    rw [← askE_good g] at h
    exact h
  · have h := e22 (A := A) (B := B) (c := c) (d := d) (u := u) (v := v) (w := w) hH hR hn hm he
    have e : flatsR kind base most hs rs u v = [] := by unfold flatsR; rw [if_neg (by rw [askE_bad he]; exact he)]
    rw [e, askE_bad he]
    exact h


end Go.Proofs.Ytfbglomliankmaa.Sc
end
section
set_option linter.unusedSimpArgs false
set_option linter.unusedVariables false
namespace Go.Proofs.Ytfbglomliankmaa.Sc
open Go.RowKit Go
open Go.K (setd setn ev nth over cl eI eP eT setM setF)
attribute [local irreducible] K.blk K.row
theorem key101 : Try.prog.keyTypeAt 10 98 = true := by kernel_rfl
theorem guard101 : Try.prog.eqGuardType Try.prog.depth 98 = false := by kernel_rfl
theorem form101 (xs : List Int) : (Value.agg (a8 xs).toArray).formed Try.prog 98 = true := by kernel_rfl
theorem scsE2_0 {u v u2 v2 : Int} (h : scsE [(u, v), (u2, v2)] = 0) : scE u v = 0 ∧ scE u2 v2 = 0 := by
  rw [scsE2] at h
  by_cases h1 : scE u v = 0
  · rw [if_neg (by omega)] at h; exact ⟨h1, h⟩
  · rw [if_pos h1] at h; exact absurd h h1
theorem ul3 : Try.prog.underlying 3 = some (.int .i64) := by kernel_rfl
theorem ul101 : Try.prog.underlying 98 = some (.array 8 3) := by kernel_rfl
theorem co3 : Try.prog.cellsOf 3 = 1 := by kernel_rfl
theorem co101 : Try.prog.cellsOf 98 = 8 := by kernel_rfl
theorem lits3 {n : Int} (h : (Lit.int .i64 n).wf = true) : Try.prog.keyLits 4 3 [.int .i64 n] = some [.int .i64 n] := by
  unfold Program.keyLits
  rw [ul3]
  simp [h]
theorem lits101 {xs : List Int} (h : Bd 0 270001 xs) : Try.prog.keyLits 5 98 (Value.agg (a8 xs).toArray).cells.toList = some (litA8 xs) := by
  have w : ∀ i, (Lit.int .i64 (xs.getD i default)).wf = true := fun i => WalkArith.wf_i64 (by have := h i; omega)
  have e : (Value.agg (a8 xs).toArray).cells.toList = a8 xs := rfl
  rw [e]
  unfold Program.keyLits
  rw [ul101]
  have e2 : List.range 8 = [0, 1, 2, 3, 4, 5, 6, 7] := rfl
  have e3 : ∀ i, i < 8 → ((a8 xs).drop (i * 1)).take 1 = [.int .i64 (xs.getD i default)] := fun i hi => by
    have : i = 0 ∨ i = 1 ∨ i = 2 ∨ i = 3 ∨ i = 4 ∨ i = 5 ∨ i = 6 ∨ i = 7 := by omega
    rcases this with h | h | h | h | h | h | h | h <;> subst h <;> rfl
  simp only [co101, co3, a8_len, if_true, e2, List.mapM_cons, List.mapM_nil, e3 0 (by omega), e3 1 (by omega), e3 2 (by omega), e3 3 (by omega), e3 4 (by omega), e3 5 (by omega), e3 6 (by omega), e3 7 (by omega), lits3 (w _)]
  rfl

set_option maxRecDepth 100000 in
theorem e24 {kind base most : Int} {A B : Option Addr} {c d : Nat} {hs : List Int} {rs : List (Int × Int)} {u v u2 v2 : Int} {w : World} (hH : K.Rd w A 1 K.eI hs) (hR : K.Rd w B 2 K.eP rs) (hn : hs.length ≤ 4611686018427387904) (hm : rs.length ≤ 4611686018427387904) (he : (chk kind base most hs rs).2.2 ≠ 0) :
    Calls Try.prog 36 [.agg #[.int .i64 kind, .int .i64 base, .int .i64 most, .slice A hs.length c, .slice B rs.length d], .agg #[.int .i64 u, .int .i64 v], .agg #[.int .i64 u2, .int .i64 v2]].toArray w (K.RetSE 3 1 K.eI ([] : List Int) (chk kind base most hs rs).2.2 w) := by
  refine K.enter (args := [.agg #[.int .i64 kind, .int .i64 base, .int .i64 most, .slice A hs.length c, .slice B rs.length d], .agg #[.int .i64 u, .int .i64 v], .agg #[.int .i64 u2, .int .i64 v2]]) Try.func36 rfl (n := 56) rfl ?_
  simp only [List.replicate, List.cons_append, List.nil_append]
  refine K.seq ?_
  refine K.region_lit ?_
  refine K.seq_new (K.box) rfl ?_
  intro b3
  try dsimp only [setd, setn, ev, nth, over, cl, eI, eP, eT, List.map, List.append, List.drop, List.take]
  refine K.seq_new (K.box) rfl ?_
  intro b4
  try dsimp only [setd, setn, ev, nth, over, cl, eI, eP, eT, List.map, List.append, List.drop, List.take]
  refine K.seq_new (K.box) rfl ?_
  intro b5
  try dsimp only [setd, setn, ev, nth, over, cl, eI, eP, eT, List.map, List.append, List.drop, List.take]
  refine K.seq_pure (K.assign) rfl ?_
  dsimp only [setd, setn, ev, nth]
  refine K.seq_pure (K.assign) rfl ?_
  dsimp only [setd, setn, ev, nth]
  refine K.seq_nil ?_
  refine K.norm_then ?_
  refine K.seq ?_
  refine K.region_lit ?_
  refine K.seq_sil (K.loadA_own ag_41 rfl (K.m2) rfl) rfl ?_
  try dsimp only [setd, setn, ev, nth, over, cl, eI, eP, eT, List.map, List.append, List.drop, List.take]
  refine K.seq_sil (K.loadA_own ag_36 rfl (K.m1) rfl) rfl ?_
  try dsimp only [setd, setn, ev, nth, over, cl, eI, eP, eT, List.map, List.append, List.drop, List.take]
  refine K.seq_sil (K.loadA_own ag_36 rfl (K.m0) rfl) rfl ?_
  try dsimp only [setd, setn, ev, nth, over, cl, eI, eP, eT, List.map, List.append, List.drop, List.take]
  refine K.seq_new (K.buildSlice (bs27_2 _ _ _ _)) rfl ?_
  intro b18
  try dsimp only [setd, setn, ev, nth, over, cl, eI, eP, eT, List.map, List.append, List.drop, List.take]
  refine K.seq_call (K.call_g cal_41 (fun F w hF hw => e58 (l := [(u, v), (u2, v2)]) (hH.pass hw) (hR.pass hw) hn hm he)) rfl ?_
  try dsimp only [setd, setn, ev, nth, over, cl, eI, eP, eT, List.map, List.append, List.drop, List.take]
  refine K.seq_pure (K.move) rfl ?_
  dsimp only [setd, setn, ev, nth]
  refine K.seq_pure (K.extract rfl rfl) rfl ?_
  dsimp only [setd, setn, ev, nth]
  refine K.seq_pure (K.extract rfl rfl) rfl ?_
  dsimp only [setd, setn, ev, nth]
  refine K.seq_new (K.alloc zr_94) rfl ?_
  intro b8
  try dsimp only [setd, setn, ev, nth, over, cl, eI, eP, eT, List.map, List.append, List.drop, List.take]
  refine K.seq_st (K.store_all sz_94 rfl rfl rfl rfl (K.rp0)) rfl ?_
  try dsimp only [setd, setn, ev, nth, over, cl, eI, eP, eT, List.map, List.append, List.drop, List.take]
  refine K.seq_pure (K.assign) rfl ?_
  dsimp only [setd, setn, ev, nth]
  refine K.seq_nil ?_
  refine K.norm_then ?_
  refine K.seq ?_
  refine K.seq ?_
  refine K.region_lit ?_
  refine K.seq_pure (K.move) rfl ?_
  dsimp only [setd, setn, ev, nth]
  refine K.seq_pure (K.neq rfl rfl) rfl ?_
  dsimp only [setd, setn, ev, nth]
  refine K.seq_nil ?_
  refine K.norm_then ?_
  refine K.cond rfl (fun ht23 => ?_) (fun ht23 => ?_)
  · try replace ht23 := of_decide_eq_true ht23
    refine K.seq ?_
    refine K.region_lit ?_
    refine K.seq_pure (K.move) rfl ?_
    dsimp only [setd, setn, ev, nth]
    refine K.seq_pure (K.assign) rfl ?_
    dsimp only [setd, setn, ev, nth]
    refine K.seq_pure (K.assign) rfl ?_
    dsimp only [setd, setn, ev, nth]
    refine K.seq_nil ?_
    refine K.norm_then ?_
    refine K.ret ?_
    refine K.ret_then ?_
    refine K.end_ret (fun w _ => K.res_tmp2 rfl w) ?_
    exact K.rets_se0 rfl rfl rfl
  try replace ht23 := of_decide_eq_false ht23
  exact absurd he ht23

set_option maxRecDepth 100000 in
theorem g24 {kind base most : Int} {A B : Option Addr} {c d : Nat} {hs : List Int} {rs : List (Int × Int)} {u v u2 v2 : Int} {w : World} (hH : K.Rd w A 1 K.eI hs) (hR : K.Rd w B 2 K.eP rs) (g : Good kind base most hs rs) :
    Calls Try.prog 36 [.agg #[.int .i64 kind, .int .i64 base, .int .i64 most, .slice A hs.length c, .slice B rs.length d], .agg #[.int .i64 u, .int .i64 v], .agg #[.int .i64 u2, .int .i64 v2]].toArray w (K.RetSE 3 1 K.eI (if scsE [(u, v), (u2, v2)] = 0 then diffs (cuts kind base u v hs) (cuts kind base u2 v2 hs) else []) (scsE [(u, v), (u2, v2)]) w) := by
  have g1 := g.k
  have g2 := g.n
  have g3 := g.r
  have g4 := g.b
  have g5 := g.m
  have hcl : (cuts kind base u v hs).length = hs.length := cuts_len
  have hcl2 : (cuts kind base u2 v2 hs).length = hs.length := cuts_len
  refine K.enter (args := [.agg #[.int .i64 kind, .int .i64 base, .int .i64 most, .slice A hs.length c, .slice B rs.length d], .agg #[.int .i64 u, .int .i64 v], .agg #[.int .i64 u2, .int .i64 v2]]) Try.func36 rfl (n := 56) rfl ?_
  simp only [List.replicate, List.cons_append, List.nil_append]
  refine K.seq ?_
  refine K.region_lit ?_
  refine K.seq_new (K.box) rfl ?_
  intro b3
  try dsimp only [setd, setn, ev, nth, over, cl, eI, eP, eT, List.map, List.append, List.drop, List.take]
  refine K.seq_new (K.box) rfl ?_
  intro b4
  try dsimp only [setd, setn, ev, nth, over, cl, eI, eP, eT, List.map, List.append, List.drop, List.take]
  refine K.seq_new (K.box) rfl ?_
  intro b5
  try dsimp only [setd, setn, ev, nth, over, cl, eI, eP, eT, List.map, List.append, List.drop, List.take]
  refine K.seq_pure (K.assign) rfl ?_
  dsimp only [setd, setn, ev, nth]
  refine K.seq_pure (K.assign) rfl ?_
  dsimp only [setd, setn, ev, nth]
  refine K.seq_nil ?_
  refine K.norm_then ?_
  refine K.seq ?_
  refine K.region_lit ?_
  refine K.seq_sil (K.loadA_own ag_41 rfl (K.m2) rfl) rfl ?_
  try dsimp only [setd, setn, ev, nth, over, cl, eI, eP, eT, List.map, List.append, List.drop, List.take]
  refine K.seq_sil (K.loadA_own ag_36 rfl (K.m1) rfl) rfl ?_
  try dsimp only [setd, setn, ev, nth, over, cl, eI, eP, eT, List.map, List.append, List.drop, List.take]
  refine K.seq_sil (K.loadA_own ag_36 rfl (K.m0) rfl) rfl ?_
  try dsimp only [setd, setn, ev, nth, over, cl, eI, eP, eT, List.map, List.append, List.drop, List.take]
  refine K.seq_new (K.buildSlice (bs27_2 _ _ _ _)) rfl ?_
  intro b18
  try dsimp only [setd, setn, ev, nth, over, cl, eI, eP, eT, List.map, List.append, List.drop, List.take]
  refine K.seq_call (K.call_g cal_41 (fun F w hF hw => c58 (l := [(u, v), (u2, v2)]) (hH.pass hw) (hR.pass hw) g (K.Rd.lit hw (hF _ (K.m0)) (fun _ => rfl) (by decide) rfl) (by simp))) rfl ?_
  try dsimp only [setd, setn, ev, nth, over, cl, eI, eP, eT, List.map, List.append, List.drop, List.take]
  refine K.seq_pure (K.move) rfl ?_
  dsimp only [setd, setn, ev, nth]
  refine K.seq_pure (K.extract rfl rfl) rfl ?_
  dsimp only [setd, setn, ev, nth]
  refine K.seq_pure (K.extract rfl rfl) rfl ?_
  dsimp only [setd, setn, ev, nth]
  refine K.seq_new (K.alloc zr_94) rfl ?_
  intro b8
  try dsimp only [setd, setn, ev, nth, over, cl, eI, eP, eT, List.map, List.append, List.drop, List.take]
  refine K.seq_st (K.store_all sz_94 rfl rfl rfl rfl (K.rp0)) rfl ?_
  try dsimp only [setd, setn, ev, nth, over, cl, eI, eP, eT, List.map, List.append, List.drop, List.take]
  refine K.seq_pure (K.assign) rfl ?_
  dsimp only [setd, setn, ev, nth]
  refine K.seq_nil ?_
  refine K.norm_then ?_
  refine K.seq ?_
  refine K.seq ?_
  refine K.region_lit ?_
  refine K.seq_pure (K.move) rfl ?_
  dsimp only [setd, setn, ev, nth]
  refine K.seq_pure (K.neq rfl rfl) rfl ?_
  dsimp only [setd, setn, ev, nth]
  refine K.seq_nil ?_
  refine K.norm_then ?_
  refine K.cond rfl (fun ht23 => ?_) (fun ht23 => ?_)
  · try replace ht23 := of_decide_eq_true ht23
    refine K.seq ?_
    refine K.region_lit ?_
    refine K.seq_pure (K.move) rfl ?_
    dsimp only [setd, setn, ev, nth]
    refine K.seq_pure (K.assign) rfl ?_
    dsimp only [setd, setn, ev, nth]
    refine K.seq_pure (K.assign) rfl ?_
    dsimp only [setd, setn, ev, nth]
    refine K.seq_nil ?_
    refine K.norm_then ?_
    refine K.ret ?_
    refine K.ret_then ?_
    refine K.end_ret (fun w _ => K.res_tmp2 rfl w) ?_
    exact K.rets_se0 (by rw [if_neg ht23]) rfl rfl
  try replace ht23 := of_decide_eq_false ht23
  have hq := scsE2_0 (u := u) (v := v) (u2 := u2) (v2 := v2) (by omega)
  have hp := scE_parts hq.1
  have hp2 := scE_parts hq.2
  have he0 : scsE [(u, v), (u2, v2)] = 0 := by omega
  refine K.skip ?_
  refine K.norm_then ?_
  refine K.seq ?_
  refine K.region_lit ?_
  refine K.seq_sil (K.loadA_own ag_94 rfl (K.m0) rfl) rfl ?_
  try dsimp only [setd, setn, ev, nth, over, cl, eI, eP, eT, List.map, List.append, List.drop, List.take]
  refine K.seq_sil (K.loadA_own ag_36 rfl (K.m3) rfl) rfl ?_
  try dsimp only [setd, setn, ev, nth, over, cl, eI, eP, eT, List.map, List.append, List.drop, List.take]
  refine K.seq_call (K.call_g cal_42 (fun F w hF hw => c59 (hH.pass hw) g hp)) rfl ?_
  try dsimp only [setd, setn, ev, nth, over, cl, eI, eP, eT, List.map, List.append, List.drop, List.take]
  refine K.seq_pure (K.move) rfl ?_
  dsimp only [setd, setn, ev, nth]
  refine K.seq_pure (K.extract rfl rfl) rfl ?_
  dsimp only [setd, setn, ev, nth]
  refine K.seq_pure (K.extract rfl rfl) rfl ?_
  dsimp only [setd, setn, ev, nth]
  refine K.seq_new (K.alloc zr_98) rfl ?_
  intro b9
  try dsimp only [setd, setn, ev, nth, over, cl, eI, eP, eT, List.map, List.append, List.drop, List.take]
  refine K.seq_st (K.store_all sz_98 rfl rfl rfl rfl (K.rp0)) rfl ?_
  try dsimp only [setd, setn, ev, nth, over, cl, eI, eP, eT, List.map, List.append, List.drop, List.take]
  refine K.seq_pure (K.assign) rfl ?_
  dsimp only [setd, setn, ev, nth]
  refine K.seq_nil ?_
  refine K.norm_then ?_
  refine K.seq ?_
  refine K.region_lit ?_
  refine K.seq_sil (K.loadA_own ag_94 rfl (K.m1) rfl) rfl ?_
  try dsimp only [setd, setn, ev, nth, over, cl, eI, eP, eT, List.map, List.append, List.drop, List.take]
  refine K.seq_sil (K.loadA_own ag_36 rfl (K.m3) rfl) rfl ?_
  try dsimp only [setd, setn, ev, nth, over, cl, eI, eP, eT, List.map, List.append, List.drop, List.take]
  refine K.seq_call (K.call_g cal_42 (fun F w hF hw => c59 (hH.pass hw) g hp2)) rfl ?_
  try dsimp only [setd, setn, ev, nth, over, cl, eI, eP, eT, List.map, List.append, List.drop, List.take]
  refine K.seq_pure (K.move) rfl ?_
  dsimp only [setd, setn, ev, nth]
  refine K.seq_pure (K.extract rfl rfl) rfl ?_
  dsimp only [setd, setn, ev, nth]
  refine K.seq_pure (K.extract rfl rfl) rfl ?_
  dsimp only [setd, setn, ev, nth]
  refine K.seq_new (K.alloc zr_98) rfl ?_
  intro b11
  try dsimp only [setd, setn, ev, nth, over, cl, eI, eP, eT, List.map, List.append, List.drop, List.take]
  refine K.seq_st (K.store_all sz_98 rfl rfl rfl rfl (K.rp0)) rfl ?_
  try dsimp only [setd, setn, ev, nth, over, cl, eI, eP, eT, List.map, List.append, List.drop, List.take]
  refine K.seq_pure (K.assign) rfl ?_
  dsimp only [setd, setn, ev, nth]
  refine K.seq_nil ?_
  refine K.norm_then ?_
  refine K.seq ?_
  refine K.seq ?_
  refine K.region_lit ?_
  refine K.seq_sil (K.loadA_own ag_98 rfl ((K.m1)) rfl) rfl ?_
  try dsimp only [setd, setn, ev, nth, over, cl, eI, eP, eT, List.map, List.append, List.drop, List.take]
  refine K.seq_sil (K.loadA_own ag_98 rfl ((K.m0)) rfl) rfl ?_
  try dsimp only [setd, setn, ev, nth, over, cl, eI, eP, eT, List.map, List.append, List.drop, List.take]
  refine K.seq_pure (K.eql_key (m := 5) (a := .agg (a8 (cuts kind base u v hs)).toArray) (b := .agg (a8 (cuts kind base u2 v2 hs)).toArray) key101 guard101 rfl rfl (form101 _) (form101 _) (lits101 (g.bdc hp)) (lits101 (g.bdc hp2)) ⟨_, _, rfl, rfl⟩ (decide ((cuts kind base u v hs) = (cuts kind base u2 v2 hs))) (by rw [decide_eq_true_iff, litA8_eq (by omega) (by omega)])) rfl ?_
  dsimp only [setd, setn, ev, nth]
  refine K.seq_nil ?_
  refine K.norm_then ?_
  refine K.cond rfl (fun ht39 => ?_) (fun ht39 => ?_)
  · try replace ht39 := of_decide_eq_true ht39
    refine K.seq ?_
    refine K.region_lit ?_
    refine K.seq_pure (K.assign) rfl ?_
    dsimp only [setd, setn, ev, nth]
    refine K.seq_pure (K.assign) rfl ?_
    dsimp only [setd, setn, ev, nth]
    refine K.seq_nil ?_
    refine K.norm_then ?_
    refine K.ret ?_
    refine K.ret_then ?_
    refine K.end_ret (fun w _ => K.res_tmp2 rfl w) ?_
    rw [if_pos he0, he0]
    exact K.rets_se0 (by rw [ht39, diffs_self]) rfl rfl
  try replace ht39 := of_decide_eq_false ht39
  refine K.skip ?_
  refine K.norm_then ?_
  refine K.seq ?_
  refine K.seq ?_
  refine K.region_lit ?_
  refine K.nil_row (e := 3) (size := 1) ?_
  refine K.seq_pure (K.fieldAddr_lit fo_41_3 rfl) rfl ?_
  dsimp only [setd, setn, ev, nth]
  refine K.seq_sil (K.load1_own one_31 rfl (K.m7) rfl) rfl ?_
  try dsimp only [setd, setn, ev, nth, over, cl, eI, eP, eT, List.map, List.append, List.drop, List.take]
  refine K.seq_pure (K.len_sl sl_31 rfl) rfl ?_
  dsimp only [setd, setn, ev, nth]
  refine K.seq_pure (K.move) rfl ?_
  dsimp only [setd, setn, ev, nth]
  refine K.seq_nil ?_
  refine K.norm_then ?_
  refine K.block ?_
  refine K.loopW [6, 43] [13, 44, 45, 46, 47, 48, 49, 50, 51, 52, 53, 54, 55, 56, 57] (fun vi L => ∃ (k : Nat) (Q1 : Option Addr) (n1 q1 : Nat) (ys : List Value), vi = [.slice Q1 n1 q1, .int .i64 (k : Int)] ∧ L = [K.row (.slice Q1 n1 q1) 3 1 n1 ys, K.blk b11 98 (a8 (cuts kind base u2 v2 hs)), K.blk b9 98 (a8 (cuts kind base u v hs)), K.blk b8 94 [.int .i64 kind, .int .i64 base, .int .i64 most, .slice A hs.length c, .slice B rs.length d, .func (.func (90 + kind.toNat)) #[] #[]], K.blk b18 36 [.int .i64 u, .int .i64 v, .int .i64 u2, .int .i64 v2], K.blk b5 36 [.int .i64 u2, .int .i64 v2], K.blk b4 36 [.int .i64 u, .int .i64 v], K.blk b3 41 [.int .i64 kind, .int .i64 base, .int .i64 most, .slice A hs.length c, .slice B rs.length d]] ∧ n1 = (selN (fun i => decide ((cuts kind base u v hs).getD i default ≠ (cuts kind base u2 v2 hs).getD i default)) k).length ∧ ys = (selN (fun i => decide ((cuts kind base u v hs).getD i default ≠ (cuts kind base u2 v2 hs).getD i default)) k).flatMap K.eI ∧ k ≤ hs.length) (fun vi => hs.length - (intOf (K.nth vi 1)).toNat) ?_ ?_
  · exact ⟨0, none, 0, 0, [], rfl, rfl, rfl, rfl, Nat.zero_le _⟩
  intro vi vr L hJ
  obtain ⟨k, Q1, n1, q1, ys, rfl, rfl, hn1, hys, hkn⟩ := hJ
  have hsl := selN_len (p := (fun i => decide ((cuts kind base u v hs).getD i default ≠ (cuts kind base u2 v2 hs).getD i default))) (n := k)
  try dsimp only [setd, setn, ev, nth, over, cl, eI, eP, eT, setM, setF, List.map, List.append, List.drop, List.take]
  refine K.seq ?_
  refine K.region_lit ?_
  refine K.seq_pure (K.lss rfl rfl) rfl ?_
  dsimp only [setd, setn, ev, nth]
  refine K.seq_nil ?_
  refine K.norm_then ?_
  refine K.seq ?_
  refine K.cond rfl (fun ht44 => ?_) (fun ht44 => ?_)
  · try replace ht44 := of_decide_eq_true ht44
    have hk : k < hs.length := by omega
    refine K.skip ?_
    refine K.norm_then ?_
    refine K.seq ?_
    refine K.block ?_
    refine K.seq ?_
    refine K.region_lit ?_
    refine K.seq_pure (K.move) rfl ?_
    dsimp only [setd, setn, ev, nth]
    refine K.seq_pure (K.assign) rfl ?_
    dsimp only [setd, setn, ev, nth]
    refine K.seq_nil ?_
    refine K.norm_then ?_
    refine K.seq ?_
    refine K.draw_L [] Try_mixed ?_
    refine K.d_pure 0 rfl (K.move) (by kernel_rfl) rfl ?_
    dsimp only [setd, setn, ev, nth]
    refine K.d_pure 1 rfl (K.indexAddr_ar ar_98 rfl rfl (by omega) (by omega)) (by kernel_rfl) rfl ?_
    try dsimp only [setd, setn, ev, nth, over, cl, eI, eP, eT, List.map, List.append, List.drop, List.take]
    refine K.d_mem 2 rfl (load8 one_3 rfl (K.m2) (by omega) (by omega)) (fun _ h => h) (by kernel_rfl) (by kernel_rfl) rfl ?_
    try dsimp only [setd, setn, ev, nth, over, cl, eI, eP, eT, List.map, List.append, List.drop, List.take]
    refine K.d_pure 3 rfl (K.move) (by kernel_rfl) rfl ?_
    dsimp only [setd, setn, ev, nth]
    refine K.d_pure 4 rfl (K.indexAddr_ar ar_98 rfl rfl (by omega) (by omega)) (by kernel_rfl) rfl ?_
    try dsimp only [setd, setn, ev, nth, over, cl, eI, eP, eT, List.map, List.append, List.drop, List.take]
    refine K.d_mem 5 rfl (load8 one_3 rfl (K.m1) (by omega) (by omega)) (fun _ h => h) (by kernel_rfl) (by kernel_rfl) rfl ?_
    try dsimp only [setd, setn, ev, nth, over, cl, eI, eP, eT, List.map, List.append, List.drop, List.take]
    refine K.d_pure 6 rfl (K.neq rfl rfl) (by kernel_rfl) rfl ?_
    dsimp only [setd, setn, ev, nth]
    refine K.d_done (by kernel_rfl) ?_
    refine K.norm_then ?_
    refine K.cond rfl (fun ht52 => ?_) (fun ht52 => ?_)
    · try replace ht52 := of_decide_eq_true ht52
      have hp : (fun i => decide ((cuts kind base u v hs).getD i default ≠ (cuts kind base u2 v2 hs).getD i default)) k = true := decide_eq_true ht52
      refine K.region_lit ?_
      refine K.seq_pure (K.move) rfl ?_
      dsimp only [setd, setn, ev, nth]
      refine K.seq_pure (K.move) rfl ?_
      dsimp only [setd, setn, ev, nth]
      refine K.seq_new (K.buildSlice (bs1 _)) rfl ?_
      intro b55
      try dsimp only [setd, setn, ev, nth, over, cl, eI, eP, eT, List.map, List.append, List.drop, List.take]
      refine K.seq_upd (K.append el_31 rfl rfl (K.PtrL.own' (K.m0)) rfl rfl (by decide) (by omega) (by omega) (fun _ _ => K.rp1)) rfl ?_
      rintro ⟨g56, c56⟩ _
      try dsimp only [setd, setn, ev, nth, over, cl, eI, eP, eT, List.map, List.append, List.drop, List.take]
      refine K.seq_pure (K.assign) rfl ?_
      dsimp only [setd, setn, ev, nth]
      refine K.seq_nil ?_
      refine K.norm_block ?_
      refine K.norm_then ?_
      refine K.region_lit ?_
      refine K.seq_pure (K.add_i64 rfl rfl (by omega)) rfl ?_
      dsimp only [setd, setn, ev, nth]
      refine K.seq_pure (K.move) rfl ?_
      dsimp only [setd, setn, ev, nth]
      refine K.seq_nil ?_
      exact K.round_endW [.slice (some ⟨g56, 0, none⟩) (n1 + 1) c56, .int .i64 ((k : Int) + 1)] ⟨k + 1, _, _, _, _, rfl, rfl, by rw [selN_t (p := (fun i => decide ((cuts kind base u v hs).getD i default ≠ (cuts kind base u2 v2 hs).getD i default))) (n := k) hp, List.length_append, ← hn1]; rfl, by rw [selN_t (p := (fun i => decide ((cuts kind base u v hs).getD i default ≠ (cuts kind base u2 v2 hs).getD i default))) (n := k) hp, List.flatMap_append, ← hys], by omega⟩ (by simp [K.nth, intOf]; omega) (by repeat (first | exact List.Sublist.refl _ | apply List.Sublist.cons)) (by kernel_rfl)
    try replace ht52 := of_decide_eq_false ht52
    have hp : (fun i => decide ((cuts kind base u v hs).getD i default ≠ (cuts kind base u2 v2 hs).getD i default)) k = false := decide_eq_false ht52
    refine K.skip ?_
    refine K.norm_block ?_
    refine K.norm_then ?_
    refine K.region_lit ?_
    refine K.seq_pure (K.add_i64 rfl rfl (by omega)) rfl ?_
    dsimp only [setd, setn, ev, nth]
    refine K.seq_pure (K.move) rfl ?_
    dsimp only [setd, setn, ev, nth]
    refine K.seq_nil ?_
    exact K.round_endW [.slice Q1 n1 q1, .int .i64 ((k : Int) + 1)] ⟨k + 1, _, _, _, _, rfl, rfl, by rw [selN_f (p := (fun i => decide ((cuts kind base u v hs).getD i default ≠ (cuts kind base u2 v2 hs).getD i default))) (n := k) hp, ← hn1], by rw [selN_f (p := (fun i => decide ((cuts kind base u v hs).getD i default ≠ (cuts kind base u2 v2 hs).getD i default))) (n := k) hp, ← hys], by omega⟩ (by simp [K.nth, intOf]; omega) (by repeat (first | exact List.Sublist.refl _ | apply List.Sublist.cons)) (by kernel_rfl)
  try replace ht44 := of_decide_eq_false ht44
  refine K.exit ?_
  refine K.exit_then ?_
  refine K.exit_then ?_
  refine K.exit_here ?_
  refine K.norm_then ?_
  refine K.seq ?_
  refine K.region_lit ?_
  refine K.seq_pure (K.move) rfl ?_
  dsimp only [setd, setn, ev, nth]
  refine K.seq_pure (K.assign) rfl ?_
  dsimp only [setd, setn, ev, nth]
  refine K.seq_pure (K.assign) rfl ?_
  dsimp only [setd, setn, ev, nth]
  refine K.seq_nil ?_
  refine K.norm_then ?_
  refine K.ret ?_
  refine K.end_ret (fun w _ => K.res_tmp2 rfl w) ?_
  rw [if_pos he0, he0]
  have hk8 : k = (cuts kind base u v hs).length := by omega
  subst hk8
  exact K.rets_se (List.Mem.head _) hn1 hys rfl rfl

theorem c24 {kind base most : Int} {A B : Option Addr} {c d : Nat} {hs : List Int} {rs : List (Int × Int)} {u v u2 v2 : Int} {w : World} (hH : K.Rd w A 1 K.eI hs) (hR : K.Rd w B 2 K.eP rs) (hn : hs.length ≤ 4611686018427387904) (hm : rs.length ≤ 4611686018427387904) : Calls Try.prog 36 [.agg #[.int .i64 kind, .int .i64 base, .int .i64 most, .slice A hs.length c, .slice B rs.length d], .agg #[.int .i64 u, .int .i64 v], .agg #[.int .i64 u2, .int .i64 v2]].toArray w (K.RetSE 3 1 K.eI (apartR kind base most hs rs u v u2 v2) (ask2 kind base most hs rs u v u2 v2) w) := by
  by_cases he : (chk kind base most hs rs).2.2 = 0
  · have h := g24 (A := A) (B := B) (c := c) (d := d) (u := u) (v := v) (u2 := u2) (v2 := v2) (w := w) hH hR (chk_good he)
    have g := chk_good he
    have e1 : scsE [(u, v), (u2, v2)] = ask2 kind base most hs rs u v u2 v2 := by rw [scsE2]; unfold ask2; rw [askE_good g]
    rw [e1] at h
    exact h
  · have h := e24 (A := A) (B := B) (c := c) (d := d) (u := u) (v := v) (u2 := u2) (v2 := v2) (w := w) hH hR hn hm he
    have e1 : ask2 kind base most hs rs u v u2 v2 = (chk kind base most hs rs).2.2 := by unfold ask2; rw [askE_bad he, if_pos he]
    have e : apartR kind base most hs rs u v u2 v2 = [] := by unfold apartR; rw [if_neg (by rw [e1]; exact he)]
    rw [e, e1]
    exact h


end Go.Proofs.Ytfbglomliankmaa.Sc
end
section
set_option linter.unusedSimpArgs false
set_option linter.unusedVariables false
namespace Go.Proofs.Ytfbglomliankmaa.Sc
open Go.RowKit Go
open Go.K (setd setn ev nth over cl eI eP eT setM setF)
attribute [local irreducible] K.blk K.row

theorem K.app_l {α : Type} {xs ys : List α} {i : Nat} {x : α} (h : xs[i]? = some x) : (xs ++ ys)[i]? = some x := by
  rw [List.getElem?_append_left (List.getElem?_eq_some_iff.1 h).1, h]
theorem K.app_m {α : Type} {xs ys : List α} {x : α} : (xs ++ x :: ys)[xs.length]? = some x := by simp
theorem K.app_r {α : Type} {xs ys : List α} {y x : α} {i : Nat} (h : ys[i]? = some x) : (xs ++ y :: ys)[i + xs.length + 1]? = some x := by
  rw [List.getElem?_append_right (by omega)]
  have e : i + xs.length + 1 - xs.length = i + 1 := by omega
  rw [e]; simpa using h


theorem R.Step.fail2 {α : Type} {XS : List α} {J Jx : Nat → (Nat → Prop) → World → Prop} (hJxa : R.Abides Jx) {m m' k k' : Nat} {f f' : Nat → Prop} {w w1 w' w2 : World} (h : R.Step XS J Jx m k f w false w') (hw : K.St w' [] w2) : R.Step XS J Jx m' k' f' w1 false w2 := by
  rcases h with ⟨h, _⟩ | ⟨_, k2, f2, h1, h2⟩
  · cases h
  · exact .inr ⟨rfl, k2, f2, h1, hJxa _ _ _ _ h2 hw.1⟩


set_option maxRecDepth 100000 in
theorem c91 {XS : List (Int × Int)} {J Jx : Nat → (Nat → Prop) → World → Prop} {lr : Nat} (hR : R.RoundOK Try.prog lr (fun x : Int × Int => .agg #[.int .i64 x.1, .int .i64 x.2]) XS J Jx) (hJa : R.Abides J) (hJxa : R.Abides Jx) : ∀ (n : Nat) (a b : Int × Int) (k : Nat) (f : Nat → Prop) (w : World) {p q : Addr}, (0 ≤ a.1 ∧ a.1 ≤ 30 ∧ 0 ≤ a.2 ∧ a.2 ≤ 30) → (0 ≤ b.1 ∧ b.1 ≤ 30 ∧ 0 ≤ b.2 ∧ b.2 ≤ 30) → (1 ≤ a.1 + a.2 ∧ 1 ≤ b.1 + b.2) → 62 ≤ a.1 + a.2 + (b.1 + b.2) + n →
    J k f w → (∀ i, f i → i < w.heap.size) → R.Own1 f w p [.func (.func 81) #[] #[.pointer (some p), .pointer (some q)]] → R.Own1 f w q [.func (.yield lr) #[] #[]] → (∀ i x, (sb n a b)[i]? = some x → XS[k + i]? = some x) →
    Calls Try.prog 81 [.agg #[.int .i64 a.1, .int .i64 a.2], .agg #[.int .i64 b.1, .int .i64 b.2], .pointer (some p), .pointer (some q)].toArray w (fun e w' => ∃ bb, e = .returned (.bool bb) ∧ R.Step XS J Jx (sb n a b).length k f w bb w') := by
  intro n
  induction n with
  | zero =>
    intro a b k f w p q ha hb hab hn hJ hf hp hq hx
    refine R.enter (args := [.agg #[.int .i64 a.1, .int .i64 a.2], .agg #[.int .i64 b.1, .int .i64 b.2], .pointer (some p), .pointer (some q)]) Try.func81 rfl (m := 38) rfl ?_
    simp only [List.replicate, List.cons_append, List.nil_append]
    refine R.seq ?_
    refine R.region_lit rfl ?_
    refine K.seq_new (K.box) rfl ?_
    intro b4
    try dsimp only [setd, setn, ev, nth, over, cl, eI, eP, eT, List.map, List.append, List.drop, List.take]
    refine K.seq_new (K.box) rfl ?_
    intro b5
    try dsimp only [setd, setn, ev, nth, over, cl, eI, eP, eT, List.map, List.append, List.drop, List.take]
    refine K.seq_pure (K.assign) rfl ?_
    dsimp only [setd, setn, ev, nth]
    refine K.seq_nil ?_
    refine R.out ?_
    refine R.norm_then ?_
    refine R.seq ?_
    refine R.region_lit rfl ?_
    refine K.seq_pure (K.fieldAddr_lit fo_36_0 rfl) rfl ?_
    dsimp only [setd, setn, ev, nth]
    refine K.seq_sil (K.load1_own one_3 rfl (K.m1) rfl) rfl ?_
    try dsimp only [setd, setn, ev, nth, over, cl, eI, eP, eT, List.map, List.append, List.drop, List.take]
    refine K.seq_pure (K.fieldAddr_lit fo_36_0 rfl) rfl ?_
    dsimp only [setd, setn, ev, nth]
    refine K.seq_sil (K.load1_own one_3 rfl (K.m0) rfl) rfl ?_
    try dsimp only [setd, setn, ev, nth, over, cl, eI, eP, eT, List.map, List.append, List.drop, List.take]
    refine K.seq_pure (K.add_i64 rfl rfl (by omega)) rfl ?_
    dsimp only [setd, setn, ev, nth]
    refine K.seq_pure (K.fieldAddr_lit fo_36_1 rfl) rfl ?_
    dsimp only [setd, setn, ev, nth]
    refine K.seq_sil (K.load1_own one_3 rfl (K.m1) rfl) rfl ?_
    try dsimp only [setd, setn, ev, nth, over, cl, eI, eP, eT, List.map, List.append, List.drop, List.take]
    refine K.seq_pure (K.fieldAddr_lit fo_36_1 rfl) rfl ?_
    dsimp only [setd, setn, ev, nth]
    refine K.seq_sil (K.load1_own one_3 rfl (K.m0) rfl) rfl ?_
    try dsimp only [setd, setn, ev, nth, over, cl, eI, eP, eT, List.map, List.append, List.drop, List.take]
    refine K.seq_pure (K.add_i64 rfl rfl (by omega)) rfl ?_
    dsimp only [setd, setn, ev, nth]
    refine K.seq_pure (K.build (bl27 _ _)) rfl ?_
    try dsimp only [setd, setn, ev, nth, over, cl, eI, eP, eT, List.map, List.append, List.drop, List.take]
    refine K.seq_new (K.alloc zr_36) rfl ?_
    intro b7
    try dsimp only [setd, setn, ev, nth, over, cl, eI, eP, eT, List.map, List.append, List.drop, List.take]
    refine K.seq_st (K.store_all sz_36 rfl rfl rfl rfl (K.rp0)) rfl ?_
    try dsimp only [setd, setn, ev, nth, over, cl, eI, eP, eT, List.map, List.append, List.drop, List.take]
    refine K.seq_nil ?_
    refine R.out ?_
    refine R.norm_then ?_
    refine R.seq ?_
    refine R.seq ?_
    refine R.region_lit rfl ?_
    refine K.seq_pure (K.fieldAddr_lit fo_36_0 rfl) rfl ?_
    dsimp only [setd, setn, ev, nth]
    refine K.seq_sil (K.load1_own one_3 rfl (K.m0) rfl) rfl ?_
    try dsimp only [setd, setn, ev, nth, over, cl, eI, eP, eT, List.map, List.append, List.drop, List.take]
    refine K.seq_pure (K.gtr rfl rfl) rfl ?_
    dsimp only [setd, setn, ev, nth]
    refine K.seq_pure (K.move) rfl ?_
    dsimp only [setd, setn, ev, nth]
    refine K.split 22 rfl (fun hg22 => ?_) (fun hg22 => ?_)
    · try replace hg22 := of_decide_eq_true hg22
      refine K.seq_skip ?_ ?_
      · rfl
      try dsimp only [setd, setn, ev, nth, over, cl, eI, eP, eT, List.map, List.append, List.drop, List.take]
      refine K.seq_skip ?_ ?_
      · rfl
      try dsimp only [setd, setn, ev, nth, over, cl, eI, eP, eT, List.map, List.append, List.drop, List.take]
      refine K.seq_skip ?_ ?_
      · rfl
      try dsimp only [setd, setn, ev, nth, over, cl, eI, eP, eT, List.map, List.append, List.drop, List.take]
      refine K.seq_pure (K.pick_t rfl) rfl ?_
      dsimp only [setd, setn, ev, nth]
      refine K.seq_nil ?_
      refine R.out ?_
      refine R.norm_then ?_
      refine R.cond_true rfl ?_
      refine R.seq ?_
      refine R.region_lit rfl ?_
      refine K.seq_pure (K.assign) rfl ?_
      dsimp only [setd, setn, ev, nth]
      refine K.seq_nil ?_
      refine R.out ?_
      refine R.norm_then ?_
      refine R.ret ?_
      refine R.ret_then ?_
      refine R.end_ret (fun w _ => K.res_tmp rfl w) ?_
      exact fun w' hw' => ⟨true, rfl, .inl ⟨rfl, f, hJa _ _ _ _ hJ hw'.1, R.Keep.below hw'.1, fun i hi => Nat.lt_of_lt_of_le (hf i hi) hw'.1.size⟩⟩
    try replace hg22 := of_decide_eq_false hg22
    refine K.seq_pure (K.fieldAddr_lit fo_36_1 rfl) rfl ?_
    dsimp only [setd, setn, ev, nth]
    refine K.seq_sil (K.load1_own one_3 rfl (K.m0) rfl) rfl ?_
    try dsimp only [setd, setn, ev, nth, over, cl, eI, eP, eT, List.map, List.append, List.drop, List.take]
    refine K.seq_pure (K.gtr rfl rfl) rfl ?_
    dsimp only [setd, setn, ev, nth]
    refine K.seq_pure (K.pick_f rfl) rfl ?_
    dsimp only [setd, setn, ev, nth]
    refine K.seq_nil ?_
    refine R.out ?_
    refine R.norm_then ?_
    refine R.cond rfl (fun ht26 => ?_) (fun ht26 => ?_)
    · try replace ht26 := of_decide_eq_true ht26
      refine R.seq ?_
      refine R.region_lit rfl ?_
      refine K.seq_pure (K.assign) rfl ?_
      dsimp only [setd, setn, ev, nth]
      refine K.seq_nil ?_
      refine R.out ?_
      refine R.norm_then ?_
      refine R.ret ?_
      refine R.ret_then ?_
      refine R.end_ret (fun w _ => K.res_tmp rfl w) ?_
      exact fun w' hw' => ⟨true, rfl, .inl ⟨rfl, f, hJa _ _ _ _ hJ hw'.1, R.Keep.below hw'.1, fun i hi => Nat.lt_of_lt_of_le (hf i hi) hw'.1.size⟩⟩
    try replace ht26 := of_decide_eq_false ht26
    refine R.skip ?_
    refine R.norm_then ?_
    refine R.seq ?_
    exfalso; omega
  | succ n ih =>
    intro a b k f w p q ha hb hab hn hJ hf hp hq hx
    refine R.enter (args := [.agg #[.int .i64 a.1, .int .i64 a.2], .agg #[.int .i64 b.1, .int .i64 b.2], .pointer (some p), .pointer (some q)]) Try.func81 rfl (m := 38) rfl ?_
    simp only [List.replicate, List.cons_append, List.nil_append]
    refine R.seq ?_
    refine R.region_lit rfl ?_
    refine K.seq_new (K.box) rfl ?_
    intro b4
    try dsimp only [setd, setn, ev, nth, over, cl, eI, eP, eT, List.map, List.append, List.drop, List.take]
    refine K.seq_new (K.box) rfl ?_
    intro b5
    try dsimp only [setd, setn, ev, nth, over, cl, eI, eP, eT, List.map, List.append, List.drop, List.take]
    refine K.seq_pure (K.assign) rfl ?_
    dsimp only [setd, setn, ev, nth]
    refine K.seq_nil ?_
    refine R.out ?_
    refine R.norm_then ?_
    refine R.seq ?_
    refine R.region_lit rfl ?_
    refine K.seq_pure (K.fieldAddr_lit fo_36_0 rfl) rfl ?_
    dsimp only [setd, setn, ev, nth]
    refine K.seq_sil (K.load1_own one_3 rfl (K.m1) rfl) rfl ?_
    try dsimp only [setd, setn, ev, nth, over, cl, eI, eP, eT, List.map, List.append, List.drop, List.take]
    refine K.seq_pure (K.fieldAddr_lit fo_36_0 rfl) rfl ?_
    dsimp only [setd, setn, ev, nth]
    refine K.seq_sil (K.load1_own one_3 rfl (K.m0) rfl) rfl ?_
    try dsimp only [setd, setn, ev, nth, over, cl, eI, eP, eT, List.map, List.append, List.drop, List.take]
    refine K.seq_pure (K.add_i64 rfl rfl (by omega)) rfl ?_
    dsimp only [setd, setn, ev, nth]
    refine K.seq_pure (K.fieldAddr_lit fo_36_1 rfl) rfl ?_
    dsimp only [setd, setn, ev, nth]
    refine K.seq_sil (K.load1_own one_3 rfl (K.m1) rfl) rfl ?_
    try dsimp only [setd, setn, ev, nth, over, cl, eI, eP, eT, List.map, List.append, List.drop, List.take]
    refine K.seq_pure (K.fieldAddr_lit fo_36_1 rfl) rfl ?_
    dsimp only [setd, setn, ev, nth]
    refine K.seq_sil (K.load1_own one_3 rfl (K.m0) rfl) rfl ?_
    try dsimp only [setd, setn, ev, nth, over, cl, eI, eP, eT, List.map, List.append, List.drop, List.take]
    refine K.seq_pure (K.add_i64 rfl rfl (by omega)) rfl ?_
    dsimp only [setd, setn, ev, nth]
    refine K.seq_pure (K.build (bl27 _ _)) rfl ?_
    try dsimp only [setd, setn, ev, nth, over, cl, eI, eP, eT, List.map, List.append, List.drop, List.take]
    refine K.seq_new (K.alloc zr_36) rfl ?_
    intro b7
    try dsimp only [setd, setn, ev, nth, over, cl, eI, eP, eT, List.map, List.append, List.drop, List.take]
    refine K.seq_st (K.store_all sz_36 rfl rfl rfl rfl (K.rp0)) rfl ?_
    try dsimp only [setd, setn, ev, nth, over, cl, eI, eP, eT, List.map, List.append, List.drop, List.take]
    refine K.seq_nil ?_
    refine R.out ?_
    refine R.norm_then ?_
    refine R.seq ?_
    refine R.seq ?_
    refine R.region_lit rfl ?_
    refine K.seq_pure (K.fieldAddr_lit fo_36_0 rfl) rfl ?_
    dsimp only [setd, setn, ev, nth]
    refine K.seq_sil (K.load1_own one_3 rfl (K.m0) rfl) rfl ?_
    try dsimp only [setd, setn, ev, nth, over, cl, eI, eP, eT, List.map, List.append, List.drop, List.take]
    refine K.seq_pure (K.gtr rfl rfl) rfl ?_
    dsimp only [setd, setn, ev, nth]
    refine K.seq_pure (K.move) rfl ?_
    dsimp only [setd, setn, ev, nth]
    refine K.split 22 rfl (fun hg22 => ?_) (fun hg22 => ?_)
    · try replace hg22 := of_decide_eq_true hg22
      refine K.seq_skip ?_ ?_
      · rfl
      try dsimp only [setd, setn, ev, nth, over, cl, eI, eP, eT, List.map, List.append, List.drop, List.take]
      refine K.seq_skip ?_ ?_
      · rfl
      try dsimp only [setd, setn, ev, nth, over, cl, eI, eP, eT, List.map, List.append, List.drop, List.take]
      refine K.seq_skip ?_ ?_
      · rfl
      try dsimp only [setd, setn, ev, nth, over, cl, eI, eP, eT, List.map, List.append, List.drop, List.take]
      refine K.seq_pure (K.pick_t rfl) rfl ?_
      dsimp only [setd, setn, ev, nth]
      refine K.seq_nil ?_
      refine R.out ?_
      refine R.norm_then ?_
      refine R.cond_true rfl ?_
      refine R.seq ?_
      refine R.region_lit rfl ?_
      refine K.seq_pure (K.assign) rfl ?_
      dsimp only [setd, setn, ev, nth]
      refine K.seq_nil ?_
      refine R.out ?_
      refine R.norm_then ?_
      refine R.ret ?_
      refine R.ret_then ?_
      refine R.end_ret (fun w _ => K.res_tmp rfl w) ?_
      have e0 : sb (n + 1) a b = [] := by unfold sb; rw [if_pos (by omega)]
      rw [e0]
      exact fun w' hw' => ⟨true, rfl, .inl ⟨rfl, f, hJa _ _ _ _ hJ hw'.1, R.Keep.below hw'.1, fun i hi => Nat.lt_of_lt_of_le (hf i hi) hw'.1.size⟩⟩
    try replace hg22 := of_decide_eq_false hg22
    refine K.seq_pure (K.fieldAddr_lit fo_36_1 rfl) rfl ?_
    dsimp only [setd, setn, ev, nth]
    refine K.seq_sil (K.load1_own one_3 rfl (K.m0) rfl) rfl ?_
    try dsimp only [setd, setn, ev, nth, over, cl, eI, eP, eT, List.map, List.append, List.drop, List.take]
    refine K.seq_pure (K.gtr rfl rfl) rfl ?_
    dsimp only [setd, setn, ev, nth]
    refine K.seq_pure (K.pick_f rfl) rfl ?_
    dsimp only [setd, setn, ev, nth]
    refine K.seq_nil ?_
    refine R.out ?_
    refine R.norm_then ?_
    refine R.cond rfl (fun ht26 => ?_) (fun ht26 => ?_)
    · try replace ht26 := of_decide_eq_true ht26
      refine R.seq ?_
      refine R.region_lit rfl ?_
      refine K.seq_pure (K.assign) rfl ?_
      dsimp only [setd, setn, ev, nth]
      refine K.seq_nil ?_
      refine R.out ?_
      refine R.norm_then ?_
      refine R.ret ?_
      refine R.ret_then ?_
      refine R.end_ret (fun w _ => K.res_tmp rfl w) ?_
      have e0 : sb (n + 1) a b = [] := by unfold sb; rw [if_pos (by omega)]
      rw [e0]
      exact fun w' hw' => ⟨true, rfl, .inl ⟨rfl, f, hJa _ _ _ _ hJ hw'.1, R.Keep.below hw'.1, fun i hi => Nat.lt_of_lt_of_le (hf i hi) hw'.1.size⟩⟩
    try replace ht26 := of_decide_eq_false ht26
    refine R.skip ?_
    refine R.norm_then ?_
    refine R.seq ?_
    have hsb : sb (n + 1) a b = sb n a (a.1 + b.1, a.2 + b.2) ++ (a.1 + b.1, a.2 + b.2) :: sb n (a.1 + b.1, a.2 + b.2) b := by rw [sb, if_neg (by omega)]
    refine R.lregion ?_
    refine R.lseq_sil (K.load1 one_151 rfl hp.ptr.any) rfl rfl ?_
    try dsimp only [setd, setn, ev, nth, over, cl, eI, eP, eT, List.map, List.append, List.drop, List.take]
    refine R.lseq_sil (K.loadA_own ag_36 rfl (K.m2) rfl) rfl rfl ?_
    try dsimp only [setd, setn, ev, nth, over, cl, eI, eP, eT, List.map, List.append, List.drop, List.take]
    refine R.lseq_sil (K.loadA_own ag_36 rfl (K.m0) rfl) rfl rfl ?_
    try dsimp only [setd, setn, ev, nth, over, cl, eI, eP, eT, List.map, List.append, List.drop, List.take]
    refine R.lseq_wild (first := []) (cap := [.pointer (some p), .pointer (some q)]) (post := fun w' bb w1 => R.Step XS J Jx (sb n a (a.1 + b.1, a.2 + b.2)).length k f w' bb w1) rfl cal_81 rfl (fun w' hw' => ih _ _ k f w' (by (try simp only); omega) (by (try simp only); omega) (by (try simp only); omega) (by (try simp only); omega) (hJa _ _ _ _ hJ hw'.1) (fun i hi => Nat.lt_of_lt_of_le (hf i hi) hw'.1.size) (hp.keep (R.Keep.below hw'.1)) (hq.keep (R.Keep.below hw'.1)) (fun i x hi => hx i x (by rw [hsb]; exact K.app_l hi))) ?_
    intro w1 hw1 bb w2 hst
    have o4 := R.Own1.blk hw1 (K.m2) hf
    have o5 := R.Own1.blk hw1 (K.m1) hf
    have o7 := R.Own1.blk hw1 (K.m0) hf
    have k1 := R.Keep.below (f := f) hw1.1
    try dsimp only [setd, setn, ev, nth, over, cl, eI, eP, eT, List.map, List.append, List.drop, List.take]
    refine R.lseq_pure K.move rfl rfl ?_
    try dsimp only [setd, setn, ev, nth, over, cl, eI, eP, eT, List.map, List.append, List.drop, List.take]
    cases bb with
    | false =>
      try dsimp only [setd, setn, ev, nth, over, cl, eI, eP, eT, List.map, List.append, List.drop, List.take]
      refine R.lseq_skip rfl ?_
      try dsimp only [setd, setn, ev, nth, over, cl, eI, eP, eT, List.map, List.append, List.drop, List.take]
      refine R.lseq_skip rfl ?_
      try dsimp only [setd, setn, ev, nth, over, cl, eI, eP, eT, List.map, List.append, List.drop, List.take]
      refine R.lseq_skip rfl ?_
      try dsimp only [setd, setn, ev, nth, over, cl, eI, eP, eT, List.map, List.append, List.drop, List.take]
      refine R.lseq_pure (K.pick_f rfl) rfl rfl ?_
      try dsimp only [setd, setn, ev, nth, over, cl, eI, eP, eT, List.map, List.append, List.drop, List.take]
      refine R.lseq_pure K.move rfl rfl ?_
      try dsimp only [setd, setn, ev, nth, over, cl, eI, eP, eT, List.map, List.append, List.drop, List.take]
      refine R.lseq_skip rfl ?_
      try dsimp only [setd, setn, ev, nth, over, cl, eI, eP, eT, List.map, List.append, List.drop, List.take]
      refine R.lseq_skip rfl ?_
      try dsimp only [setd, setn, ev, nth, over, cl, eI, eP, eT, List.map, List.append, List.drop, List.take]
      refine R.lseq_skip rfl ?_
      try dsimp only [setd, setn, ev, nth, over, cl, eI, eP, eT, List.map, List.append, List.drop, List.take]
      refine R.lseq_skip rfl ?_
      try dsimp only [setd, setn, ev, nth, over, cl, eI, eP, eT, List.map, List.append, List.drop, List.take]
      refine R.lseq_pure (K.pick_f rfl) rfl rfl ?_
      try dsimp only [setd, setn, ev, nth, over, cl, eI, eP, eT, List.map, List.append, List.drop, List.take]
      refine R.lseq_pure K.assign rfl rfl ?_
      try dsimp only [setd, setn, ev, nth, over, cl, eI, eP, eT, List.map, List.append, List.drop, List.take]
      refine R.lseq_nil ?_
      refine R.norm_then ?_
      refine R.ret ?_
      refine R.end_ret (fun w _ => K.res_tmp rfl w) ?_
      exact fun w' hw' => ⟨false, rfl, R.Step.fail2 hJxa hst hw'⟩
    | true =>
      rcases hst with ⟨_, f1, hJ1, hk1, hf1⟩ | ⟨h, _⟩
      case inr => cases h
      have hk2 := k1.trans hk1
      replace o4 := o4.keep hk1
      replace o5 := o5.keep hk1
      replace o7 := o7.keep hk1
      have hp1 := hp.keep hk2
      have hq1 := hq.keep hk2
      try dsimp only [setd, setn, ev, nth, over, cl, eI, eP, eT, List.map, List.append, List.drop, List.take]
      refine R.lseq_sil (K.load1 one_150 rfl hq1.ptr) rfl rfl ?_
      try dsimp only [setd, setn, ev, nth, over, cl, eI, eP, eT, List.map, List.append, List.drop, List.take]
      refine R.lseq_sil (K.loadA_p ag_36 rfl o7.ptr rfl) rfl rfl ?_
      try dsimp only [setd, setn, ev, nth, over, cl, eI, eP, eT, List.map, List.append, List.drop, List.take]
      refine R.lseq_yield (u := .agg #[.int .i64 (a.1 + b.1), .int .i64 (a.2 + b.2)]) (post := fun w' bb w1 => R.Step XS J Jx 1 (k + (sb n a (a.1 + b.1, a.2 + b.2)).length) f1 w' bb w1) rfl rfl rfl (fun w' hw' => R.yield_step hR (x := (a.1 + b.1, a.2 + b.2)) (hx _ _ (by rw [hsb]; exact K.app_m)) (hJa _ _ _ _ hJ1 hw'.1)) ?_
      intro w3 hw3 bb w4 hst
      have k3 := R.Keep.below (f := f1) hw3.1
      try dsimp only [setd, setn, ev, nth, over, cl, eI, eP, eT, List.map, List.append, List.drop, List.take]
      cases bb with
      | false =>
        try dsimp only [setd, setn, ev, nth, over, cl, eI, eP, eT, List.map, List.append, List.drop, List.take]
        refine R.lseq_pure (K.pick_t rfl) rfl rfl ?_
        try dsimp only [setd, setn, ev, nth, over, cl, eI, eP, eT, List.map, List.append, List.drop, List.take]
        refine R.lseq_pure K.move rfl rfl ?_
        try dsimp only [setd, setn, ev, nth, over, cl, eI, eP, eT, List.map, List.append, List.drop, List.take]
        refine R.lseq_skip rfl ?_
        try dsimp only [setd, setn, ev, nth, over, cl, eI, eP, eT, List.map, List.append, List.drop, List.take]
        refine R.lseq_skip rfl ?_
        try dsimp only [setd, setn, ev, nth, over, cl, eI, eP, eT, List.map, List.append, List.drop, List.take]
        refine R.lseq_skip rfl ?_
        try dsimp only [setd, setn, ev, nth, over, cl, eI, eP, eT, List.map, List.append, List.drop, List.take]
        refine R.lseq_skip rfl ?_
        try dsimp only [setd, setn, ev, nth, over, cl, eI, eP, eT, List.map, List.append, List.drop, List.take]
        refine R.lseq_pure (K.pick_f rfl) rfl rfl ?_
        try dsimp only [setd, setn, ev, nth, over, cl, eI, eP, eT, List.map, List.append, List.drop, List.take]
        refine R.lseq_pure K.assign rfl rfl ?_
        try dsimp only [setd, setn, ev, nth, over, cl, eI, eP, eT, List.map, List.append, List.drop, List.take]
        refine R.lseq_nil ?_
        refine R.norm_then ?_
        refine R.ret ?_
        refine R.end_ret (fun w _ => K.res_tmp rfl w) ?_
        exact fun w' hw' => ⟨false, rfl, R.Step.fail2 hJxa hst hw'⟩
      | true =>
        rcases hst with ⟨_, f2, hJ2, hk4, hf2⟩ | ⟨h, _⟩
        case inr => cases h
        have hk5 := k3.trans hk4
        replace o5 := o5.keep hk5
        replace o7 := o7.keep hk5
        have hp2 := hp1.keep hk5
        have hq2 := hq1.keep hk5
        have hk6 := hk2.trans hk5
        try dsimp only [setd, setn, ev, nth, over, cl, eI, eP, eT, List.map, List.append, List.drop, List.take]
        refine R.lseq_pure (K.pick_t rfl) rfl rfl ?_
        try dsimp only [setd, setn, ev, nth, over, cl, eI, eP, eT, List.map, List.append, List.drop, List.take]
        refine R.lseq_pure K.move rfl rfl ?_
        try dsimp only [setd, setn, ev, nth, over, cl, eI, eP, eT, List.map, List.append, List.drop, List.take]
        refine R.lseq_sil (K.load1 one_151 rfl hp2.ptr) rfl rfl ?_
        try dsimp only [setd, setn, ev, nth, over, cl, eI, eP, eT, List.map, List.append, List.drop, List.take]
        refine R.lseq_sil (K.loadA_p ag_36 rfl o7.ptr rfl) rfl rfl ?_
        try dsimp only [setd, setn, ev, nth, over, cl, eI, eP, eT, List.map, List.append, List.drop, List.take]
        refine R.lseq_sil (K.loadA_p ag_36 rfl o5.ptr rfl) rfl rfl ?_
        try dsimp only [setd, setn, ev, nth, over, cl, eI, eP, eT, List.map, List.append, List.drop, List.take]
        refine R.lseq_wild (first := []) (cap := [.pointer (some p), .pointer (some q)]) (post := fun w' bb w1 => R.Step XS J Jx (sb n (a.1 + b.1, a.2 + b.2) b).length (k + (sb n a (a.1 + b.1, a.2 + b.2)).length + 1) f2 w' bb w1) rfl cal_81 rfl (fun w' hw' => ih _ _ _ f2 w' (by (try simp only); omega) (by (try simp only); omega) (by (try simp only); omega) (by (try simp only); omega) (hJa _ _ _ _ hJ2 hw'.1) (fun i hi => Nat.lt_of_lt_of_le (hf2 i hi) hw'.1.size) (hp2.keep (R.Keep.below hw'.1)) (hq2.keep (R.Keep.below hw'.1)) (fun i x hi => by
          have := hx (i + (sb n a (a.1 + b.1, a.2 + b.2)).length + 1) x (by rw [hsb]; exact K.app_r hi)
          rw [← this]; congr 1; omega)) ?_
        intro w5 hw5 bb w6 hst
        have k5 := R.Keep.below (f := f2) hw5.1
        try dsimp only [setd, setn, ev, nth, over, cl, eI, eP, eT, List.map, List.append, List.drop, List.take]
        refine R.lseq_pure (K.pick_t rfl) rfl rfl ?_
        try dsimp only [setd, setn, ev, nth, over, cl, eI, eP, eT, List.map, List.append, List.drop, List.take]
        refine R.lseq_pure K.assign rfl rfl ?_
        try dsimp only [setd, setn, ev, nth, over, cl, eI, eP, eT, List.map, List.append, List.drop, List.take]
        refine R.lseq_nil ?_
        refine R.norm_then ?_
        refine R.ret ?_
        refine R.end_ret (fun w _ => K.res_tmp rfl w) ?_
        intro w7 hw7
        refine ⟨bb, rfl, ?_⟩
        cases bb with
        | false => exact R.Step.fail2 hJxa hst hw7
        | true =>
          rcases hst with ⟨_, f3, hJ3, hk7, hf3⟩ | ⟨h, _⟩
          case inr => cases h
          refine .inl ⟨rfl, f3, ?_, (hk6.trans (k5.trans hk7)).trans (R.Keep.below hw7.1), fun i hi => Nat.lt_of_lt_of_le (hf3 i hi) hw7.1.size⟩
          have e : k + (sb (n + 1) a b).length = k + (sb n a (a.1 + b.1, a.2 + b.2)).length + 1 + (sb n (a.1 + b.1, a.2 + b.2) b).length := by
            rw [hsb]; simp; omega
          rw [e]
          exact hJa _ _ _ _ hJ3 hw7.1


end Go.Proofs.Ytfbglomliankmaa.Sc
end
section
set_option linter.unusedSimpArgs false
set_option linter.unusedVariables false
namespace Go.Proofs.Ytfbglomliankmaa.Sc
open Go.RowKit Go
open Go.K (setd setn ev nth over cl eI eP eT setM setF)
attribute [local irreducible] K.blk K.row

set_option maxRecDepth 100000 in
theorem c90  :
    R.Iter Try.prog 80 (fun x : Int × Int => Value.agg #[.int .i64 x.1, .int .i64 x.2]) SB := by
  intro lr J Jx f w hJa hJxa hf hR hJ0
  refine R.enter (args := [.func (.yield lr) #[] #[]]) Try.func80 rfl (m := 7) rfl ?_
  simp only [List.replicate, List.cons_append, List.nil_append]
  refine R.seq ?_
  refine R.region_lit rfl ?_
  refine K.seq_new (K.box) rfl ?_
  intro b1
  try dsimp only [setd, setn, ev, nth, over, cl, eI, eP, eT, List.map, List.append, List.drop, List.take]
  refine K.seq_nil ?_
  refine R.out ?_
  refine R.norm_then ?_
  refine R.seq ?_
  refine R.region_lit rfl ?_
  refine K.seq_new (K.alloc zr_151) rfl ?_
  intro b2
  try dsimp only [setd, setn, ev, nth, over, cl, eI, eP, eT, List.map, List.append, List.drop, List.take]
  refine K.seq_nil ?_
  refine R.out ?_
  refine R.norm_then ?_
  refine R.seq ?_
  refine R.region_lit rfl ?_
  refine K.seq_pure (K.mkFunc) rfl ?_
  try dsimp only [setd, setn, ev, nth, over, cl, eI, eP, eT, List.map, List.append, List.drop, List.take]
  refine K.seq_st (K.store sz_151 rfl rfl rfl rfl (K.rp0)) rfl ?_
  try dsimp only [setd, setn, ev, nth, over, cl, eI, eP, eT, List.map, List.append, List.drop, List.take]
  refine K.seq_nil ?_
  refine R.out ?_
  refine R.norm_then ?_
  refine R.lregion ?_
  refine R.lseq_sil (K.load1_own one_151 rfl (K.m0) rfl) rfl rfl ?_
  try dsimp only [setd, setn, ev, nth, over, cl, eI, eP, eT, List.map, List.append, List.drop, List.take]
  refine R.lseq_pure (K.build (bl27 _ _)) rfl rfl ?_
  try dsimp only [setd, setn, ev, nth, over, cl, eI, eP, eT, List.map, List.append, List.drop, List.take]
  refine R.lseq_pure (K.build (bl27 _ _)) rfl rfl ?_
  try dsimp only [setd, setn, ev, nth, over, cl, eI, eP, eT, List.map, List.append, List.drop, List.take]
  refine R.lseq_wild (first := []) (cap := [.pointer (some ⟨b2, 0, none⟩), .pointer (some ⟨b1, 0, none⟩)]) (post := fun w' bb w1 => R.Step SB J Jx SB.length 0 f w' bb w1) rfl cal_81 rfl (fun w' hw' => c91 hR hJa hJxa 60 (0, 1) (1, 0) 0 f w' (by decide) (by decide) (by decide) (by decide) (hJa _ _ _ _ hJ0 hw'.1) (fun i hi => Nat.lt_of_lt_of_le (hf i hi) hw'.1.size) (R.Own1.blk hw' (K.m0) hf) (R.Own1.blk hw' (K.m1) hf) (fun i x hi => by rw [Nat.zero_add]; exact hi)) ?_
  intro w1 hw1 bb w2 hst
  try dsimp only [setd, setn, ev, nth, over, cl, eI, eP, eT, List.map, List.append, List.drop, List.take]
  refine R.lseq_nil ?_
  refine R.end_normal (fun w _ => K.res_none rfl w) ?_
  intro w3 hw3
  refine ⟨⟨_, rfl⟩, ?_⟩
  rcases hst with ⟨_, f', h1, _⟩ | ⟨_, k', f', h1, h2⟩
  · rw [Nat.zero_add] at h1; exact .inl ⟨f', hJa _ _ _ _ h1 hw3.1⟩
  · exact .inr ⟨k', f', h1, hJxa _ _ _ _ h2 hw3.1⟩

set_option maxRecDepth 100000 in
theorem c67 (w : World) :
    Calls Try.prog 60 [].toArray w (K.Gives (.func (.func 80) #[] #[]) w) := by
  refine K.enter (args := []) Try.func60 rfl (n := 1) rfl ?_
  simp only [List.replicate, List.cons_append, List.nil_append]
  refine K.seq ?_
  refine K.region_lit ?_
  refine K.seq_pure (K.assign) rfl ?_
  dsimp only [setd, setn, ev, nth]
  refine K.seq_nil ?_
  refine K.norm_then ?_
  refine K.seq ?_
  refine K.region_lit ?_
  refine K.seq_pure (K.assign) rfl ?_
  dsimp only [setd, setn, ev, nth]
  refine K.seq_nil ?_
  refine K.norm_then ?_
  refine K.ret ?_
  refine K.end_ret (fun w _ => K.res_tmp rfl w) ?_
  exact K.gives rfl

end Go.Proofs.Ytfbglomliankmaa.Sc
end
section
set_option linter.unusedSimpArgs false
set_option linter.unusedVariables false
namespace Go.Proofs.Ytfbglomliankmaa.Sc
open Go.RowKit Go
open Go.K (setd setn ev nth over cl eI eP eT setM setF)
attribute [local irreducible] K.blk K.row

set_option maxRecDepth 100000 in
theorem c71 {kind base most : Int} {A B : Option Addr} {c d : Nat} {hs : List Int} {rs : List (Int × Int)} {x : Int × Int × Int} {p : Addr} {w : World} (hp : K.PtrL w [] p [.int .i64 kind, .int .i64 base, .int .i64 most, .slice A hs.length c, .slice B rs.length d]) (hn : hs.length ≤ 4611686018427387904) :
    Calls Try.prog 62 [.agg (K.eT x).toArray, .pointer (some p)].toArray w (K.Gives (.int .i64 (markE hs.length x)) w) := by
  refine K.enter (args := [.agg (K.eT x).toArray, .pointer (some p)]) Try.func62 rfl (n := 28) rfl ?_
  simp only [List.replicate, List.cons_append, List.nil_append]
  refine K.seq ?_
  refine K.region_lit ?_
  refine K.seq_new (K.box) rfl ?_
  intro b2
  try dsimp only [setd, setn, ev, nth, over, cl, eI, eP, eT, List.map, List.append, List.drop, List.take]
  refine K.seq_pure (K.assign) rfl ?_
  dsimp only [setd, setn, ev, nth]
  refine K.seq_nil ?_
  refine K.norm_then ?_
  refine K.seq ?_
  refine K.block ?_
  refine K.seq ?_
  refine K.region_lit ?_
  refine K.seq_pure (K.fieldAddr fo_41_3 rfl) rfl ?_
  dsimp only [setd, setn, ev, nth]
  refine K.seq_sil (K.load1 one_31 rfl ((K.PtrL.fld hp (k := 3)).any)) rfl ?_
  try dsimp only [setd, setn, ev, nth, over, cl, eI, eP, eT, List.map, List.append, List.drop, List.take]
  refine K.seq_pure (K.len_sl sl_31 rfl) rfl ?_
  dsimp only [setd, setn, ev, nth]
  refine K.seq_pure (K.sub_i64 rfl rfl (by omega)) rfl ?_
  dsimp only [setd, setn, ev, nth]
  refine K.seq_pure (K.fieldAddr_lit fo_82_0 rfl) rfl ?_
  dsimp only [setd, setn, ev, nth]
  refine K.seq_sil (K.load1_own one_3 rfl (K.m0) rfl) rfl ?_
  try dsimp only [setd, setn, ev, nth, over, cl, eI, eP, eT, List.map, List.append, List.drop, List.take]
  refine K.seq_new (K.buildSlice (bs1 _)) rfl ?_
  intro b11
  try dsimp only [setd, setn, ev, nth, over, cl, eI, eP, eT, List.map, List.append, List.drop, List.take]
  refine K.seq_call (K.call_g cal_59 (fun F w hF hw => c52_1 hw (hF _ (K.m0)))) rfl ?_
  try dsimp only [setd, setn, ev, nth, over, cl, eI, eP, eT, List.map, List.append, List.drop, List.take]
  refine K.seq_pure (K.assign) rfl ?_
  dsimp only [setd, setn, ev, nth]
  refine K.seq_nil ?_
  refine K.norm_then ?_
  refine K.cond rfl (fun ht4 => ?_) (fun ht4 => ?_)
  · try replace ht4 := of_decide_eq_true ht4
    refine K.seq ?_
    refine K.region_lit ?_
    refine K.seq_pure (K.assign) rfl ?_
    dsimp only [setd, setn, ev, nth]
    refine K.seq_nil ?_
    refine K.norm_then ?_
    refine K.ret ?_
    refine K.ret_block ?_
    refine K.ret_then ?_
    refine K.end_ret (fun w _ => K.res_tmp rfl w) ?_
    exact K.gives_i rfl (by unfold markE; rw [if_pos (by omega)])
  try replace ht4 := of_decide_eq_false ht4
  refine K.seq ?_
  refine K.region_lit ?_
  refine K.seq_pure (K.fieldAddr_lit fo_82_1 rfl) rfl ?_
  dsimp only [setd, setn, ev, nth]
  refine K.seq_pure (K.fieldAddr_lit fo_52_0 rfl) rfl ?_
  dsimp only [setd, setn, ev, nth]
  refine K.seq_sil (K.load1_own one_3 rfl (K.m1) rfl) rfl ?_
  try dsimp only [setd, setn, ev, nth, over, cl, eI, eP, eT, List.map, List.append, List.drop, List.take]
  refine K.seq_pure (K.fieldAddr_lit fo_82_1 rfl) rfl ?_
  dsimp only [setd, setn, ev, nth]
  refine K.seq_pure (K.fieldAddr_lit fo_52_1 rfl) rfl ?_
  dsimp only [setd, setn, ev, nth]
  refine K.seq_sil (K.load1_own one_3 rfl (K.m1) rfl) rfl ?_
  try dsimp only [setd, setn, ev, nth, over, cl, eI, eP, eT, List.map, List.append, List.drop, List.take]
  refine K.seq_new (K.buildSlice (bs2 _ _)) rfl ?_
  intro b20
  try dsimp only [setd, setn, ev, nth, over, cl, eI, eP, eT, List.map, List.append, List.drop, List.take]
  refine K.seq_call (K.call_g cal_59 (fun F w hF hw => c52_2 hw (hF _ (K.m0)))) rfl ?_
  try dsimp only [setd, setn, ev, nth, over, cl, eI, eP, eT, List.map, List.append, List.drop, List.take]
  refine K.seq_pure (K.assign) rfl ?_
  dsimp only [setd, setn, ev, nth]
  refine K.seq_nil ?_
  refine K.norm_then ?_
  refine K.cond rfl (fun ht13 => ?_) (fun ht13 => ?_)
  · try replace ht13 := of_decide_eq_true ht13
    refine K.seq ?_
    refine K.region_lit ?_
    refine K.seq_pure (K.assign) rfl ?_
    dsimp only [setd, setn, ev, nth]
    refine K.seq_nil ?_
    refine K.norm_then ?_
    refine K.ret ?_
    refine K.ret_block ?_
    refine K.ret_then ?_
    refine K.end_ret (fun w _ => K.res_tmp rfl w) ?_
    exact K.gives_i rfl (by unfold markE; rw [if_neg (by omega), if_pos (by omega)])
  try replace ht13 := of_decide_eq_false ht13
  refine K.seq ?_
  refine K.region_lit ?_
  refine K.seq_pure (K.fieldAddr_lit fo_82_1 rfl) rfl ?_
  dsimp only [setd, setn, ev, nth]
  refine K.seq_pure (K.fieldAddr_lit fo_52_0 rfl) rfl ?_
  dsimp only [setd, setn, ev, nth]
  refine K.seq_sil (K.load1_own one_3 rfl (K.m2) rfl) rfl ?_
  try dsimp only [setd, setn, ev, nth, over, cl, eI, eP, eT, List.map, List.append, List.drop, List.take]
  refine K.seq_pure (K.fieldAddr_lit fo_82_1 rfl) rfl ?_
  dsimp only [setd, setn, ev, nth]
  refine K.seq_pure (K.fieldAddr_lit fo_52_1 rfl) rfl ?_
  dsimp only [setd, setn, ev, nth]
  refine K.seq_sil (K.load1_own one_3 rfl (K.m2) rfl) rfl ?_
  try dsimp only [setd, setn, ev, nth, over, cl, eI, eP, eT, List.map, List.append, List.drop, List.take]
  refine K.seq_pure (K.gtr rfl rfl) rfl ?_
  dsimp only [setd, setn, ev, nth]
  refine K.seq_pure (K.assign) rfl ?_
  dsimp only [setd, setn, ev, nth]
  refine K.seq_nil ?_
  refine K.norm_then ?_
  refine K.cond rfl (fun ht22 => ?_) (fun ht22 => ?_)
  · try replace ht22 := of_decide_eq_true ht22
    refine K.seq ?_
    refine K.region_lit ?_
    refine K.seq_pure (K.assign) rfl ?_
    dsimp only [setd, setn, ev, nth]
    refine K.seq_nil ?_
    refine K.norm_then ?_
    refine K.ret ?_
    refine K.ret_block ?_
    refine K.ret_then ?_
    refine K.end_ret (fun w _ => K.res_tmp rfl w) ?_
    exact K.gives_i rfl (by unfold markE; rw [if_neg (by omega), if_neg (by omega), if_pos (by omega)])
  try replace ht22 := of_decide_eq_false ht22
  refine K.skip ?_
  refine K.norm_block ?_
  refine K.norm_then ?_
  refine K.seq ?_
  refine K.region_lit ?_
  refine K.seq_pure (K.assign) rfl ?_
  dsimp only [setd, setn, ev, nth]
  refine K.seq_nil ?_
  refine K.norm_then ?_
  refine K.ret ?_
  refine K.end_ret (fun w _ => K.res_tmp rfl w) ?_
  exact K.gives_i rfl (by unfold markE; rw [if_neg (by omega), if_neg (by omega), if_neg (by omega)])

set_option maxRecDepth 100000 in
theorem c92 {A : Option Addr} {c f : Nat} {cap : List Value} {xs : List (Int × Int × Int)} {p : (Int × Int × Int) → Bool} {w : World} (hR : K.Rd w A 3 K.eT xs) (hn : xs.length ≤ 4611686018427387904) (hcal : K.callable Try.prog f = true) (hf : ∀ x ∈ xs, ∀ w1, Below w.heap.size w w1 → Calls Try.prog f ([Value.agg (K.eT x).toArray] ++ cap).toArray w1 (K.Gives (.bool (p x)) w1)) :
    Calls Try.prog 82 [.slice A xs.length c, .func (.func f) #[] cap.toArray].toArray w (K.Gives (.int .i64 (K.idx p xs)) w) := by
  refine K.enter (args := [.slice A xs.length c, .func (.func f) #[] cap.toArray]) Try.func82 rfl (n := 17) rfl ?_
  simp only [List.replicate, List.cons_append, List.nil_append]
  refine K.seq ?_
  refine K.region_lit ?_
  refine K.seq_pure (K.assign) rfl ?_
  dsimp only [setd, setn, ev, nth]
  refine K.seq_nil ?_
  refine K.norm_then ?_
  refine K.seq ?_
  refine K.seq ?_
  refine K.region_lit ?_
  refine K.seq_pure (K.move) rfl ?_
  dsimp only [setd, setn, ev, nth]
  refine K.seq_pure (K.len_sl sl_84 rfl) rfl ?_
  dsimp only [setd, setn, ev, nth]
  refine K.seq_pure (K.move) rfl ?_
  dsimp only [setd, setn, ev, nth]
  refine K.seq_nil ?_
  refine K.norm_then ?_
  refine K.block ?_
  refine K.loopW [8] [4, 5, 9, 10, 11, 12, 13, 14, 15, 16, 17, 18] (fun vi L => ∃ k : Nat, vi = [.int .i64 (k : Int)] ∧ L = [] ∧ k ≤ xs.length ∧ ∀ j, j < k → p (xs.getD j default) = false) (fun vi => xs.length - (intOf (K.nth vi 0)).toNat) ?_ ?_
  · exact ⟨0, rfl, rfl, Nat.zero_le _, fun j hj => absurd hj (Nat.not_lt_zero j)⟩
  intro vi vr L hJ
  obtain ⟨k, rfl, rfl, hkn, hall⟩ := hJ
  try dsimp only [setd, setn, ev, nth, over, cl, eI, eP, eT, setM, setF, List.map, List.append, List.drop, List.take]
  refine K.seq ?_
  refine K.region_lit ?_
  refine K.seq_pure (K.lss rfl rfl) rfl ?_
  dsimp only [setd, setn, ev, nth]
  refine K.seq_nil ?_
  refine K.norm_then ?_
  refine K.seq ?_
  refine K.cond rfl (fun ht9 => ?_) (fun ht9 => ?_)
  · try replace ht9 := of_decide_eq_true ht9
    have hk : k < xs.length := by omega
    refine K.skip ?_
    refine K.norm_then ?_
    refine K.seq ?_
    refine K.block ?_
    refine K.seq ?_
    refine K.region_lit ?_
    refine K.seq_pure (K.move) rfl ?_
    dsimp only [setd, setn, ev, nth]
    refine K.seq_pure (K.assign) rfl ?_
    dsimp only [setd, setn, ev, nth]
    refine K.seq_nil ?_
    refine K.norm_then ?_
    refine K.seq ?_
    refine K.region_lit ?_
    refine K.seq_pure (K.move) rfl ?_
    dsimp only [setd, setn, ev, nth]
    refine K.seq_pure (K.move) rfl ?_
    dsimp only [setd, setn, ev, nth]
    refine K.seq_pure (K.move) rfl ?_
    dsimp only [setd, setn, ev, nth]
    refine K.seq_ix (M := []) _ hR.sl sl_84 rfl rfl rfl (by omega) rfl ?_
    intro p14 hp14
    try dsimp only [setd, setn, ev, nth, over, cl, eI, eP, eT, List.map, List.append, List.drop, List.take]
    refine K.seq_sil (K.loadA_p ag_82 rfl (hp14.any) rfl) rfl ?_
    try dsimp only [setd, setn, ev, nth, over, cl, eI, eP, eT, List.map, List.append, List.drop, List.take]
    refine K.seq_call (K.callv_g (first := []) (cap := cap) rfl hcal (fun F w1 _ hw => hf _ (K.gt_mem hk) w1 hw.1)) rfl ?_
    try dsimp only [setd, setn, ev, nth, over, cl, eI, eP, eT, List.map, List.append, List.drop, List.take]
    refine K.seq_nil ?_
    refine K.norm_then ?_
    refine K.cond rfl (fun ht16 => ?_) (fun ht16 => ?_)
    · try replace ht16 := of_decide_eq_true ht16
      refine K.seq ?_
      refine K.region_lit ?_
      refine K.seq_pure (K.move) rfl ?_
      dsimp only [setd, setn, ev, nth]
      refine K.seq_pure (K.assign) rfl ?_
      dsimp only [setd, setn, ev, nth]
      refine K.seq_nil ?_
      refine K.norm_then ?_
      refine K.ret ?_
      refine K.ret_block ?_
      refine K.ret_then ?_
      refine K.ret_then ?_
      refine K.ret_block ?_
      refine K.ret_then ?_
      refine K.end_ret (fun w _ => K.res_tmp rfl w) ?_
      exact K.gives_i rfl (K.idx_found hk hall ht16).symm
    try replace ht16 := of_decide_eq_false ht16
    refine K.skip ?_
    refine K.norm_block ?_
    refine K.norm_then ?_
    refine K.region_lit ?_
    refine K.seq_pure (K.add_i64 rfl rfl (by omega)) rfl ?_
    dsimp only [setd, setn, ev, nth]
    refine K.seq_pure (K.move) rfl ?_
    dsimp only [setd, setn, ev, nth]
    refine K.seq_nil ?_
    exact K.round_endW [.int .i64 ((k : Int) + 1)] ⟨k + 1, rfl, rfl, by omega, K.lt_succ_case hall ht16⟩ (by simp [K.nth, intOf]; omega) (List.Sublist.refl _) (by kernel_rfl)
  try replace ht9 := of_decide_eq_false ht9
  refine K.exit ?_
  refine K.exit_then ?_
  refine K.exit_then ?_
  refine K.exit_here ?_
  refine K.norm_then ?_
  refine K.seq ?_
  refine K.region_lit ?_
  refine K.seq_pure (K.assign) rfl ?_
  dsimp only [setd, setn, ev, nth]
  refine K.seq_nil ?_
  refine K.norm_then ?_
  refine K.ret ?_
  refine K.end_ret (fun w _ => K.res_tmp rfl w) ?_
  exact K.gives_i rfl (K.idx_none (fun j hj => hall j (by omega))).symm

set_option maxRecDepth 100000 in
theorem c72 {A : Option Addr} {c f : Nat} {cap : List Value} {xs : List (Int × Int × Int)} {p : (Int × Int × Int) → Bool} {w : World} (hR : K.Rd w A 3 K.eT xs) (hn : xs.length ≤ 4611686018427387904) (hcal : K.callable Try.prog f = true) (hf : ∀ x ∈ xs, ∀ w1, Below w.heap.size w w1 → Calls Try.prog f ([Value.agg (K.eT x).toArray] ++ cap).toArray w1 (K.Gives (.bool (p x)) w1)) :
    Calls Try.prog 63 [.slice A xs.length c, .func (.func f) #[] cap.toArray].toArray w (K.Gives (.bool (xs.any p)) w) := by
  refine K.enter (args := [.slice A xs.length c, .func (.func f) #[] cap.toArray]) Try.func63 rfl (n := 7) rfl ?_
  simp only [List.replicate, List.cons_append, List.nil_append]
  refine K.seq ?_
  refine K.region_lit ?_
  refine K.seq_pure (K.assign) rfl ?_
  dsimp only [setd, setn, ev, nth]
  refine K.seq_nil ?_
  refine K.norm_then ?_
  refine K.seq ?_
  refine K.region_lit ?_
  refine K.seq_pure (K.move) rfl ?_
  dsimp only [setd, setn, ev, nth]
  refine K.seq_pure (K.move) rfl ?_
  dsimp only [setd, setn, ev, nth]
  refine K.seq_call (K.call_g cal_82 (fun F w hF hw => c92 (p := p) (cap := cap) (hR.pass hw) hn hcal (fun x hx w1 hb => hf x hx w1 (hw.1.trans (hb.mono hw.1.size))))) rfl ?_
  try dsimp only [setd, setn, ev, nth, over, cl, eI, eP, eT, List.map, List.append, List.drop, List.take]
  refine K.seq_pure (K.geq rfl rfl) rfl ?_
  dsimp only [setd, setn, ev, nth]
  refine K.seq_pure (K.assign) rfl ?_
  dsimp only [setd, setn, ev, nth]
  refine K.seq_nil ?_
  refine K.norm_then ?_
  refine K.ret ?_
  refine K.end_ret (fun w _ => K.res_tmp rfl w) ?_
  exact K.gives_b rfl K.idx_ge

set_option maxRecDepth 100000 in
theorem c73 {x : Int × Int × Int} {b : Nat} {cs : List Int} {w : World} (hp : K.PtrL w [] ⟨b, 0, none⟩ (a8 cs)) (h0 : 0 ≤ x.1) (h8 : x.1 < 8) :
    Calls Try.prog 64 [.agg (K.eT x).toArray, .pointer (some ⟨b, 0, none⟩)].toArray w (K.Gives (.bool (missP cs x)) w) := by
  refine K.enter (args := [.agg (K.eT x).toArray, .pointer (some ⟨b, 0, none⟩)]) Try.func64 rfl (n := 14) rfl ?_
  simp only [List.replicate, List.cons_append, List.nil_append]
  refine K.seq ?_
  refine K.region_lit ?_
  refine K.seq_new (K.box) rfl ?_
  intro b2
  try dsimp only [setd, setn, ev, nth, over, cl, eI, eP, eT, List.map, List.append, List.drop, List.take]
  refine K.seq_pure (K.assign) rfl ?_
  dsimp only [setd, setn, ev, nth]
  refine K.seq_nil ?_
  refine K.norm_then ?_
  refine K.seq ?_
  refine K.draw_L [] Try_mixed ?_
  refine K.d_pure 0 rfl (K.fieldAddr_lit fo_82_1 rfl) (by kernel_rfl) rfl ?_
  dsimp only [setd, setn, ev, nth]
  refine K.d_pure 1 rfl (K.fieldAddr_lit fo_52_0 rfl) (by kernel_rfl) rfl ?_
  dsimp only [setd, setn, ev, nth]
  refine K.d_mem 2 rfl (K.load1_own one_3 rfl (K.m0) rfl) (fun _ h => h) (by kernel_rfl) (by kernel_rfl) rfl ?_
  try dsimp only [setd, setn, ev, nth, over, cl, eI, eP, eT, List.map, List.append, List.drop, List.take]
  refine K.d_pure 3 rfl (K.fieldAddr_lit fo_82_1 rfl) (by kernel_rfl) rfl ?_
  dsimp only [setd, setn, ev, nth]
  refine K.d_pure 4 rfl (K.fieldAddr_lit fo_52_1 rfl) (by kernel_rfl) rfl ?_
  dsimp only [setd, setn, ev, nth]
  refine K.d_mem 5 rfl (K.load1_own one_3 rfl (K.m0) rfl) (fun _ h => h) (by kernel_rfl) (by kernel_rfl) rfl ?_
  try dsimp only [setd, setn, ev, nth, over, cl, eI, eP, eT, List.map, List.append, List.drop, List.take]
  refine K.d_pure 6 rfl (K.fieldAddr_lit fo_82_0 rfl) (by kernel_rfl) rfl ?_
  dsimp only [setd, setn, ev, nth]
  refine K.d_mem 7 rfl (K.load1_own one_3 rfl (K.m0) rfl) (fun _ h => h) (by kernel_rfl) (by kernel_rfl) rfl ?_
  try dsimp only [setd, setn, ev, nth, over, cl, eI, eP, eT, List.map, List.append, List.drop, List.take]
  refine K.d_pure 8 rfl (K.indexAddr_ar ar_98 rfl rfl (by omega) (by omega)) (by kernel_rfl) rfl ?_
  try dsimp only [setd, setn, ev, nth, over, cl, eI, eP, eT, List.map, List.append, List.drop, List.take]
  refine K.d_mem 9 rfl (K.load1 one_3 rfl ((ptr8 hp h0 h8).any)) (fun _ h => h) (by kernel_rfl) (by kernel_rfl) rfl ?_
  try dsimp only [setd, setn, ev, nth, over, cl, eI, eP, eT, List.map, List.append, List.drop, List.take]
  refine K.d_new 10 rfl (K.buildSlice (bs1 _)) (fun _ h => h) (by kernel_rfl) rfl ?_
  intro b14
  try dsimp only [setd, setn, ev, nth, over, cl, eI, eP, eT, List.map, List.append, List.drop, List.take]
  refine K.d_call 11 rfl (K.call_g cal_59 (fun F w hF hw => c52_1 hw (hF _ (K.m0)))) (fun _ h => K.tl h) (by kernel_rfl) rfl ?_
  try dsimp only [setd, setn, ev, nth, over, cl, eI, eP, eT, List.map, List.append, List.drop, List.take]
  refine K.d_pure 12 rfl (K.assign) (by kernel_rfl) rfl ?_
  dsimp only [setd, setn, ev, nth]
  refine K.d_done (by kernel_rfl) ?_
  refine K.norm_then ?_
  refine K.ret ?_
  refine K.end_ret (fun w _ => K.res_tmp rfl w) ?_
  exact K.gives rfl

set_option maxRecDepth 100000 in
theorem e31 {kind base most : Int} {A B : Option Addr} {c d : Nat} {hs : List Int} {rs : List (Int × Int)} {M : Option Addr} {cm : Nat} {ms : List (Int × Int × Int)} {w : World} (hH : K.Rd w A 1 K.eI hs) (hR : K.Rd w B 2 K.eP rs) (hn : hs.length ≤ 4611686018427387904) (hm : rs.length ≤ 4611686018427387904) (he : (chk kind base most hs rs).2.2 ≠ 0) :
    Calls Try.prog 34 [.agg #[.int .i64 kind, .int .i64 base, .int .i64 most, .slice A hs.length c, .slice B rs.length d], .slice M ms.length cm].toArray w (K.RetSE 36 2 K.eP ([] : List (Int × Int)) (chk kind base most hs rs).2.2 w) := by
  refine K.enter (args := [.agg #[.int .i64 kind, .int .i64 base, .int .i64 most, .slice A hs.length c, .slice B rs.length d], .slice M ms.length cm]) Try.func34 rfl (n := 50) rfl ?_
  simp only [List.replicate, List.cons_append, List.nil_append]
  refine K.seq ?_
  refine K.region_lit ?_
  refine K.seq_new (K.box) rfl ?_
  intro b2
  try dsimp only [setd, setn, ev, nth, over, cl, eI, eP, eT, List.map, List.append, List.drop, List.take]
  refine K.seq_new (K.box) rfl ?_
  intro b3
  try dsimp only [setd, setn, ev, nth, over, cl, eI, eP, eT, List.map, List.append, List.drop, List.take]
  refine K.seq_new (K.alloc zr_78) rfl ?_
  intro b4
  try dsimp only [setd, setn, ev, nth, over, cl, eI, eP, eT, List.map, List.append, List.drop, List.take]
  refine K.seq_pure (K.assign) rfl ?_
  dsimp only [setd, setn, ev, nth]
  refine K.seq_nil ?_
  refine K.norm_then ?_
  refine K.seq ?_
  refine K.region_lit ?_
  refine K.seq_sil (K.loadA_own ag_41 rfl (K.m2) rfl) rfl ?_
  try dsimp only [setd, setn, ev, nth, over, cl, eI, eP, eT, List.map, List.append, List.drop, List.take]
  refine K.seq_call (K.call_g cal_41 (fun F w hF hw => e58 (l := []) (hH.pass hw) (hR.pass hw) hn hm he)) rfl ?_
  try dsimp only [setd, setn, ev, nth, over, cl, eI, eP, eT, List.map, List.append, List.drop, List.take]
  refine K.seq_pure (K.move) rfl ?_
  dsimp only [setd, setn, ev, nth]
  refine K.seq_pure (K.extract rfl rfl) rfl ?_
  dsimp only [setd, setn, ev, nth]
  refine K.seq_pure (K.extract rfl rfl) rfl ?_
  dsimp only [setd, setn, ev, nth]
  refine K.seq_new (K.alloc zr_94) rfl ?_
  intro b6
  try dsimp only [setd, setn, ev, nth, over, cl, eI, eP, eT, List.map, List.append, List.drop, List.take]
  refine K.seq_st (K.store_all sz_94 rfl rfl rfl rfl (K.rp0)) rfl ?_
  try dsimp only [setd, setn, ev, nth, over, cl, eI, eP, eT, List.map, List.append, List.drop, List.take]
  refine K.seq_pure (K.assign) rfl ?_
  dsimp only [setd, setn, ev, nth]
  refine K.seq_nil ?_
  refine K.norm_then ?_
  refine K.seq ?_
  refine K.block ?_
  refine K.seq ?_
  refine K.region_lit ?_
  refine K.seq_pure (K.move) rfl ?_
  dsimp only [setd, setn, ev, nth]
  refine K.seq_pure (K.neq rfl rfl) rfl ?_
  dsimp only [setd, setn, ev, nth]
  refine K.seq_pure (K.assign) rfl ?_
  dsimp only [setd, setn, ev, nth]
  refine K.seq_nil ?_
  refine K.norm_then ?_
  refine K.cond rfl (fun ht15 => ?_) (fun ht15 => ?_)
  · try replace ht15 := of_decide_eq_true ht15
    refine K.seq ?_
    refine K.region_lit ?_
    refine K.seq_pure (K.move) rfl ?_
    dsimp only [setd, setn, ev, nth]
    refine K.seq_st (K.store sz_78 rfl rfl rfl rfl (K.rp1)) rfl ?_
    try dsimp only [setd, setn, ev, nth, over, cl, eI, eP, eT, List.map, List.append, List.drop, List.take]
    refine K.seq_pure (K.assign) rfl ?_
    dsimp only [setd, setn, ev, nth]
    refine K.seq_nil ?_
    refine K.norm_then ?_
    refine K.ret ?_
    refine K.ret_block ?_
    refine K.ret_then ?_
    refine K.end_ret (fun w hw => K.res_ct rfl rfl (K.run_cell1 one_78 rfl (K.m1) w hw)) ?_
    exact K.rets_se0 rfl rfl rfl
  try replace ht15 := of_decide_eq_false ht15
  exact absurd he ht15

set_option maxRecDepth 100000 in
theorem g31 {kind base most : Int} {A B : Option Addr} {c d : Nat} {hs : List Int} {rs : List (Int × Int)} {M : Option Addr} {cm : Nat} {ms : List (Int × Int × Int)} {w : World} (hH : K.Rd w A 1 K.eI hs) (hR : K.Rd w B 2 K.eP rs) (g : Good kind base most hs rs) (hM : K.Rd w M 3 K.eT ms) (hml : ms.length ≤ 4611686018427387904) :
    Calls Try.prog 34 [.agg #[.int .i64 kind, .int .i64 base, .int .i64 most, .slice A hs.length c, .slice B rs.length d], .slice M ms.length cm].toArray w (K.RetSE 36 2 K.eP (if (if ms.length > 8 then 3 else (K.fst (markE hs.length) ms).2) = 0 then SB.filter (okS kind base most hs ms) else []) (if ms.length > 8 then 3 else (K.fst (markE hs.length) ms).2) w) := by
  have g1 := g.k
  have g2 := g.n
  have g3 := g.r
  have g4 := g.b
  have g5 := g.m
  refine R.enter (args := [.agg #[.int .i64 kind, .int .i64 base, .int .i64 most, .slice A hs.length c, .slice B rs.length d], .slice M ms.length cm]) Try.func34 rfl (m := 50) rfl ?_
  simp only [List.replicate, List.cons_append, List.nil_append]
  refine R.seq ?_
  refine R.region_lit rfl ?_
  refine K.seq_new (K.box) rfl ?_
  intro b2
  try dsimp only [setd, setn, ev, nth, over, cl, eI, eP, eT, List.map, List.append, List.drop, List.take]
  refine K.seq_new (K.box) rfl ?_
  intro b3
  try dsimp only [setd, setn, ev, nth, over, cl, eI, eP, eT, List.map, List.append, List.drop, List.take]
  refine K.seq_new (K.alloc zr_78) rfl ?_
  intro b4
  try dsimp only [setd, setn, ev, nth, over, cl, eI, eP, eT, List.map, List.append, List.drop, List.take]
  refine K.seq_pure (K.assign) rfl ?_
  dsimp only [setd, setn, ev, nth]
  refine K.seq_nil ?_
  refine R.out ?_
  refine R.norm_then ?_
  refine R.seq ?_
  refine R.region_lit rfl ?_
  refine K.seq_sil (K.loadA_own ag_41 rfl (K.m2) rfl) rfl ?_
  try dsimp only [setd, setn, ev, nth, over, cl, eI, eP, eT, List.map, List.append, List.drop, List.take]
  refine K.seq_call (K.call_g cal_41 (fun F w hF hw => c58 (l := []) (hH.pass hw) (hR.pass hw) g K.Rd.nil (by simp))) rfl ?_
  try dsimp only [setd, setn, ev, nth, over, cl, eI, eP, eT, List.map, List.append, List.drop, List.take]
  refine K.seq_pure (K.move) rfl ?_
  dsimp only [setd, setn, ev, nth]
  refine K.seq_pure (K.extract rfl rfl) rfl ?_
  dsimp only [setd, setn, ev, nth]
  refine K.seq_pure (K.extract rfl rfl) rfl ?_
  dsimp only [setd, setn, ev, nth]
  refine K.seq_new (K.alloc zr_94) rfl ?_
  intro b6
  try dsimp only [setd, setn, ev, nth, over, cl, eI, eP, eT, List.map, List.append, List.drop, List.take]
  refine K.seq_st (K.store_all sz_94 rfl rfl rfl rfl (K.rp0)) rfl ?_
  try dsimp only [setd, setn, ev, nth, over, cl, eI, eP, eT, List.map, List.append, List.drop, List.take]
  refine K.seq_pure (K.assign) rfl ?_
  dsimp only [setd, setn, ev, nth]
  refine K.seq_nil ?_
  refine R.out ?_
  refine R.norm_then ?_
  refine R.seq ?_
  refine R.block ?_
  refine R.seq ?_
  refine R.region_lit rfl ?_
  refine K.seq_pure (K.move) rfl ?_
  dsimp only [setd, setn, ev, nth]
  refine K.seq_pure (K.neq rfl rfl) rfl ?_
  dsimp only [setd, setn, ev, nth]
  refine K.seq_pure (K.assign) rfl ?_
  dsimp only [setd, setn, ev, nth]
  refine K.seq_nil ?_
  refine R.out ?_
  refine R.norm_then ?_
  refine R.cond rfl (fun ht15 => ?_) (fun ht15 => ?_)
  · try replace ht15 := of_decide_eq_true ht15
    exact absurd rfl ht15
  try replace ht15 := of_decide_eq_false ht15
  refine R.seq ?_
  refine R.region_lit rfl ?_
  refine K.seq_sil (K.load1_own one_84 rfl (K.m2) rfl) rfl ?_
  try dsimp only [setd, setn, ev, nth, over, cl, eI, eP, eT, List.map, List.append, List.drop, List.take]
  refine K.seq_pure (K.len_sl sl_84 rfl) rfl ?_
  dsimp only [setd, setn, ev, nth]
  refine K.seq_pure (K.gtr rfl rfl) rfl ?_
  dsimp only [setd, setn, ev, nth]
  refine K.seq_pure (K.assign) rfl ?_
  dsimp only [setd, setn, ev, nth]
  refine K.seq_nil ?_
  refine R.out ?_
  refine R.norm_then ?_
  refine R.cond rfl (fun ht19 => ?_) (fun ht19 => ?_)
  · try replace ht19 := of_decide_eq_true ht19
    have hq : (if ms.length > 8 then 3 else (K.fst (markE hs.length) ms).2) = 3 := if_pos (by omega)
    refine R.seq ?_
    refine R.region_lit rfl ?_
    refine K.seq_st (K.store sz_78 rfl rfl rfl rfl (K.rp1)) rfl ?_
    try dsimp only [setd, setn, ev, nth, over, cl, eI, eP, eT, List.map, List.append, List.drop, List.take]
    refine K.seq_pure (K.assign) rfl ?_
    dsimp only [setd, setn, ev, nth]
    refine K.seq_nil ?_
    refine R.out ?_
    refine R.norm_then ?_
    refine R.ret ?_
    refine R.ret_block ?_
    refine R.ret_then ?_
    refine R.end_ret (fun w hw => K.res_ct rfl rfl (K.run_cell1 one_78 rfl (K.m1) w hw)) ?_
    rw [hq, if_neg (by decide)]
    exact K.rets_se0 rfl rfl rfl
  try replace ht19 := of_decide_eq_false ht19
  have hq : (if ms.length > 8 then 3 else (K.fst (markE hs.length) ms).2) = (K.fst (markE hs.length) ms).2 := if_neg (by omega)
  refine R.skip ?_
  refine R.norm_block ?_
  refine R.norm_then ?_
  refine R.seq ?_
  refine R.region_lit rfl ?_
  refine K.seq_sil (K.load1_own one_84 rfl (K.m2) rfl) rfl ?_
  try dsimp only [setd, setn, ev, nth, over, cl, eI, eP, eT, List.map, List.append, List.drop, List.take]
  refine K.seq_pure (K.mkFunc) rfl ?_
  try dsimp only [setd, setn, ev, nth, over, cl, eI, eP, eT, List.map, List.append, List.drop, List.take]
  refine K.seq_call (K.call_g cal_61 (fun F w hF hw => c70 (q := markE hs.length) (cap := [.pointer (some ⟨b2, 0, none⟩)]) (hM.pass hw) hml cal_62 (fun x _ w1 hb => c71 (K.PtrL.pass hw (hF _ (K.m3)) hb) (by omega)))) rfl ?_
  try dsimp only [setd, setn, ev, nth, over, cl, eI, eP, eT, List.map, List.append, List.drop, List.take]
  refine K.seq_pure (K.move) rfl ?_
  dsimp only [setd, setn, ev, nth]
  refine K.seq_pure (K.extract rfl rfl) rfl ?_
  dsimp only [setd, setn, ev, nth]
  refine K.seq_pure (K.extract rfl rfl) rfl ?_
  dsimp only [setd, setn, ev, nth]
  refine K.seq_pure (K.assign) rfl ?_
  dsimp only [setd, setn, ev, nth]
  refine K.seq_nil ?_
  refine R.out ?_
  refine R.norm_then ?_
  refine R.seq ?_
  refine R.seq ?_
  refine R.region_lit rfl ?_
  refine K.seq_pure (K.move) rfl ?_
  dsimp only [setd, setn, ev, nth]
  refine K.seq_pure (K.neq rfl rfl) rfl ?_
  dsimp only [setd, setn, ev, nth]
  refine K.seq_nil ?_
  refine R.out ?_
  refine R.norm_then ?_
  refine R.cond rfl (fun ht30 => ?_) (fun ht30 => ?_)
  · try replace ht30 := of_decide_eq_true ht30
    refine R.seq ?_
    refine R.region_lit rfl ?_
    refine K.seq_pure (K.move) rfl ?_
    dsimp only [setd, setn, ev, nth]
    refine K.seq_st (K.store sz_78 rfl rfl rfl rfl (K.rp1)) rfl ?_
    try dsimp only [setd, setn, ev, nth, over, cl, eI, eP, eT, List.map, List.append, List.drop, List.take]
    refine K.seq_pure (K.assign) rfl ?_
    dsimp only [setd, setn, ev, nth]
    refine K.seq_nil ?_
    refine R.out ?_
    refine R.norm_then ?_
    refine R.ret ?_
    refine R.ret_then ?_
    refine R.end_ret (fun w hw => K.res_ct rfl rfl (K.run_cell1 one_78 rfl (K.m1) w hw)) ?_
    rw [hq, if_neg ht30]
    exact K.rets_se0 rfl rfl rfl
  try replace ht30 := of_decide_eq_false ht30
  have hz : (K.fst (markE hs.length) ms).2 = 0 := by omega
  have hpt : ∀ y ∈ ms, 0 ≤ y.1 ∧ y.1 < 8 := fun y hy => by have := markE_0 (fst_zero.1 hz y hy); omega
  refine R.skip ?_
  refine R.norm_then ?_
  refine R.seq ?_
  refine R.seq ?_
  refine R.region_lit rfl ?_
  refine K.nil_row (e := 36) (size := 2) ?_
  refine K.seq_call (K.call_g cal_60 (fun F w hF hw => c67 w)) rfl ?_
  try dsimp only [setd, setn, ev, nth, over, cl, eI, eP, eT, List.map, List.append, List.drop, List.take]
  refine K.seq_nil ?_
  refine R.out ?_
  refine R.norm_then ?_
  refine R.block ?_
  refine R.rangeF (gf := 80) (enc := (fun x : Int × Int => Value.agg #[.int .i64 x.1, .int .i64 x.2])) (XS := SB) rfl cal_80 c90 (fun k L => ∃ (Q1 : Option Addr) (n1 q1 : Nat) (ys : List Value), L = [K.row (.slice Q1 n1 q1) 36 2 n1 ys, K.blk b6 94 [.int .i64 kind, .int .i64 base, .int .i64 most, .slice A hs.length c, .slice B rs.length d, .func (.func (90 + kind.toNat)) #[] #[]], K.blk b4 78 [.slice Q1 n1 q1], K.blk b3 84 [.slice M ms.length cm], K.blk b2 41 [.int .i64 kind, .int .i64 base, .int .i64 most, .slice A hs.length c, .slice B rs.length d]] ∧ n1 = ((SB.take k).filter (okS kind base most hs ms)).length ∧ ys = ((SB.take k).filter (okS kind base most hs ms)).flatMap K.eP) (fun cX L => False) ?_ ?_ ?_ ?_
  · exact ⟨none, 0, 0, [], rfl, rfl, rfl⟩
  · intro k x L lr E hx hJ
    obtain ⟨Q1, n1, q1, ys, rfl, hn1, hys⟩ := hJ
    have hp := sb_parts hx
    have hfl := filt_len (p := (okS kind base most hs ms)) (k := k)
    try dsimp only [List.cons_append, List.nil_append]
    try dsimp only [setd, setn, ev, nth, over, cl, eI, eP, eT, setM, setF, List.map, List.append, List.drop, List.take]
    refine R.region_lit rfl ?_
    refine K.seq_new (K.alloc zr_36) rfl ?_
    intro b7
    try dsimp only [setd, setn, ev, nth, over, cl, eI, eP, eT, List.map, List.append, List.drop, List.take]
    refine K.seq_st (K.store_all sz_36 rfl rfl rfl rfl (K.rp0)) rfl ?_
    try dsimp only [setd, setn, ev, nth, over, cl, eI, eP, eT, List.map, List.append, List.drop, List.take]
    refine K.seq_nil ?_
    refine R.out ?_
    refine R.norm_then ?_
    refine R.body' rfl (fun E => ?_)
    dsimp only [List.dropLast, List.cons_append, List.nil_append]
    try dsimp only [setd, setn, ev, nth, over, cl, eI, eP, eT, List.map, List.append, List.drop, List.take]
    refine R.block ?_
    refine R.seq ?_
    refine R.region_lit rfl ?_
    refine K.seq_sil (K.loadA_own ag_94 rfl (K.m2) rfl) rfl ?_
    try dsimp only [setd, setn, ev, nth, over, cl, eI, eP, eT, List.map, List.append, List.drop, List.take]
    refine K.seq_sil (K.loadA_own ag_36 rfl (K.m0) rfl) rfl ?_
    try dsimp only [setd, setn, ev, nth, over, cl, eI, eP, eT, List.map, List.append, List.drop, List.take]
    refine K.seq_call (K.call_g cal_42 (fun F w hF hw => c59 (u := x.1) (v := x.2) (hH.pass hw) g hp)) rfl ?_
    try dsimp only [setd, setn, ev, nth, over, cl, eI, eP, eT, List.map, List.append, List.drop, List.take]
    refine K.seq_pure (K.move) rfl ?_
    dsimp only [setd, setn, ev, nth]
    refine K.seq_pure (K.extract rfl rfl) rfl ?_
    dsimp only [setd, setn, ev, nth]
    refine K.seq_pure (K.extract rfl rfl) rfl ?_
    dsimp only [setd, setn, ev, nth]
    refine K.seq_new (K.alloc zr_98) rfl ?_
    intro b8
    try dsimp only [setd, setn, ev, nth, over, cl, eI, eP, eT, List.map, List.append, List.drop, List.take]
    refine K.seq_st (K.store_all sz_98 rfl rfl rfl rfl (K.rp0)) rfl ?_
    try dsimp only [setd, setn, ev, nth, over, cl, eI, eP, eT, List.map, List.append, List.drop, List.take]
    refine K.seq_pure (K.assign) rfl ?_
    dsimp only [setd, setn, ev, nth]
    refine K.seq_nil ?_
    refine R.out ?_
    refine R.norm_then ?_
    refine R.seq ?_
    refine R.region_lit rfl ?_
    refine K.seq_pure (K.move) rfl ?_
    dsimp only [setd, setn, ev, nth]
    refine K.seq_pure (K.move) rfl ?_
    dsimp only [setd, setn, ev, nth]
    refine K.split 41 rfl (fun hg41 => ?_) (fun hg41 => ?_)
    · try replace hg41 := of_decide_eq_true hg41
      refine K.seq_sil (K.load1_own one_84 rfl (K.m5) rfl) rfl ?_
      try dsimp only [setd, setn, ev, nth, over, cl, eI, eP, eT, List.map, List.append, List.drop, List.take]
      refine K.seq_pure (K.mkFunc) rfl ?_
      try dsimp only [setd, setn, ev, nth, over, cl, eI, eP, eT, List.map, List.append, List.drop, List.take]
      refine K.seq_call (K.call_g cal_63 (fun F w hF hw => c72 (p := missP (cuts kind base x.1 x.2 hs)) (cap := [.pointer (some ⟨b8, 0, none⟩)]) (hM.pass hw) hml cal_64 (fun y hy w1 hb => c73 (K.PtrL.pass hw (hF _ (K.m0)) hb) (hpt y hy).1 (hpt y hy).2))) rfl ?_
      try dsimp only [setd, setn, ev, nth, over, cl, eI, eP, eT, List.map, List.append, List.drop, List.take]
      first | refine K.seq_pure (K.not_d rfl) rfl ?_ | refine K.seq_pure (K.not_ rfl) rfl ?_
      try dsimp only [setd, setn, ev, nth, over, cl, eI, eP, eT, List.map, List.append, List.drop, List.take]
      refine K.seq_pure (K.pick_t rfl) rfl ?_
      dsimp only [setd, setn, ev, nth]
      refine K.seq_nil ?_
      refine R.out ?_
      refine R.norm_then ?_
      refine R.cond rfl (fun ht46 => ?_) (fun ht46 => ?_)
      · try replace ht46 := of_decide_eq_true ht46
        refine R.region_lit rfl ?_
        refine K.seq_sil (K.load1_own one_78 rfl (K.m4) rfl) rfl ?_
        try dsimp only [setd, setn, ev, nth, over, cl, eI, eP, eT, List.map, List.append, List.drop, List.take]
        refine K.seq_sil (K.loadA_own ag_36 rfl (K.m1) rfl) rfl ?_
        try dsimp only [setd, setn, ev, nth, over, cl, eI, eP, eT, List.map, List.append, List.drop, List.take]
        refine K.seq_new (K.buildSlice (bs27 _ _)) rfl ?_
        intro b49
        try dsimp only [setd, setn, ev, nth, over, cl, eI, eP, eT, List.map, List.append, List.drop, List.take]
        refine K.seq_upd (K.append el_78 rfl rfl (K.PtrL.own' (K.m0)) rfl rfl (by decide) (by omega) (by omega) (fun _ _ => K.rp3)) rfl ?_
        rintro ⟨g50, c50⟩ _
        try dsimp only [setd, setn, ev, nth, over, cl, eI, eP, eT, List.map, List.append, List.drop, List.take]
        refine K.seq_st (K.store sz_78 rfl rfl rfl rfl (K.rp5)) rfl ?_
        try dsimp only [setd, setn, ev, nth, over, cl, eI, eP, eT, List.map, List.append, List.drop, List.take]
        refine K.seq_nil ?_
        refine R.out ?_
        refine R.norm_block ?_
        exact R.rp_normal (L := [K.row (.slice (some ⟨g50, 0, none⟩) (n1 + 1) c50) 36 2 (n1 + 1) (ys ++ [.int .i64 x.1, .int .i64 x.2]), K.blk b6 94 [.int .i64 kind, .int .i64 base, .int .i64 most, .slice A hs.length c, .slice B rs.length d, .func (.func (90 + kind.toNat)) #[] #[]], K.blk b4 78 [.slice (some ⟨g50, 0, none⟩) (n1 + 1) c50], K.blk b3 84 [.slice M ms.length cm], K.blk b2 41 [.int .i64 kind, .int .i64 base, .int .i64 most, .slice A hs.length c, .slice B rs.length d]]) ⟨_, _, _, _, rfl, by rw [filt_t hx (by unfold okS fitP; rw [hg41, ht46]; rfl), List.length_append, ← hn1]; rfl, by rw [filt_t hx (by unfold okS fitP; rw [hg41, ht46]; rfl), List.flatMap_append, ← hys]; rfl⟩ (by repeat (first | exact List.Sublist.refl _ | apply List.Sublist.cons))
      try replace ht46 := of_decide_eq_false ht46
      refine R.skip ?_
      refine R.norm_block ?_
      exact R.rp_normal (L := [K.row (.slice Q1 n1 q1) 36 2 n1 ys, K.blk b6 94 [.int .i64 kind, .int .i64 base, .int .i64 most, .slice A hs.length c, .slice B rs.length d, .func (.func (90 + kind.toNat)) #[] #[]], K.blk b4 78 [.slice Q1 n1 q1], K.blk b3 84 [.slice M ms.length cm], K.blk b2 41 [.int .i64 kind, .int .i64 base, .int .i64 most, .slice A hs.length c, .slice B rs.length d]]) ⟨_, _, _, _, rfl, by rw [filt_f hx (by unfold okS fitP; rw [ht46, Bool.and_false]), ← hn1], by rw [filt_f hx (by unfold okS fitP; rw [ht46, Bool.and_false]), ← hys]⟩ (by repeat (first | exact List.Sublist.refl _ | apply List.Sublist.cons))
    try replace hg41 := of_decide_eq_false hg41
    refine K.seq_skip ?_ ?_
    · rfl
    try dsimp only [setd, setn, ev, nth, over, cl, eI, eP, eT, List.map, List.append, List.drop, List.take]
    refine K.seq_skip ?_ ?_
    · rfl
    try dsimp only [setd, setn, ev, nth, over, cl, eI, eP, eT, List.map, List.append, List.drop, List.take]
    refine K.seq_skip ?_ ?_
    · rfl
    try dsimp only [setd, setn, ev, nth, over, cl, eI, eP, eT, List.map, List.append, List.drop, List.take]
    refine K.seq_skip ?_ ?_
    · rfl
    try dsimp only [setd, setn, ev, nth, over, cl, eI, eP, eT, List.map, List.append, List.drop, List.take]
    refine K.seq_pure (K.pick_f rfl) rfl ?_
    dsimp only [setd, setn, ev, nth]
    refine K.seq_nil ?_
    refine R.out ?_
    refine R.norm_then ?_
    refine R.cond_false rfl ?_
    refine R.skip ?_
    refine R.norm_block ?_
    exact R.rp_normal (L := [K.row (.slice Q1 n1 q1) 36 2 n1 ys, K.blk b6 94 [.int .i64 kind, .int .i64 base, .int .i64 most, .slice A hs.length c, .slice B rs.length d, .func (.func (90 + kind.toNat)) #[] #[]], K.blk b4 78 [.slice Q1 n1 q1], K.blk b3 84 [.slice M ms.length cm], K.blk b2 41 [.int .i64 kind, .int .i64 base, .int .i64 most, .slice A hs.length c, .slice B rs.length d]]) ⟨_, _, _, _, rfl, by rw [filt_f hx (by unfold okS fitP; rw [hg41]; rfl), ← hn1], by rw [filt_f hx (by unfold okS fitP; rw [hg41]; rfl), ← hys]⟩ (by repeat (first | exact List.Sublist.refl _ | apply List.Sublist.cons))
  · intro bD L hJ
    obtain ⟨Q1, n1, q1, ys, rfl, hn1, hys⟩ := hJ
    rw [List.take_length] at hn1 hys
    try dsimp only [List.cons_append, List.nil_append]
    try dsimp only [setd, setn, ev, nth, over, cl, eI, eP, eT, setM, setF, List.map, List.append, List.drop, List.take]
    refine R.norm_block ?_
    refine R.norm_then ?_
    refine R.seq ?_
    refine R.region_lit rfl ?_
    refine K.seq_sil (K.load1_own one_78 rfl (K.m2) rfl) rfl ?_
    try dsimp only [setd, setn, ev, nth, over, cl, eI, eP, eT, List.map, List.append, List.drop, List.take]
    refine K.seq_st (K.store sz_78 rfl rfl rfl rfl (K.rp2)) rfl ?_
    try dsimp only [setd, setn, ev, nth, over, cl, eI, eP, eT, List.map, List.append, List.drop, List.take]
    refine K.seq_pure (K.assign) rfl ?_
    dsimp only [setd, setn, ev, nth]
    refine K.seq_nil ?_
    refine R.out ?_
    refine R.norm_then ?_
    refine R.ret ?_
    refine R.end_ret1 rfl (by dsimp only [List.dropLast]; exact (fun w hw => K.res_ct rfl rfl (K.run_cell1 one_78 rfl (K.m2) w hw))) ?_
    dsimp only [List.dropLast]
    rw [hq, if_pos hz, hz]
    exact K.rets_se (List.Mem.head _) hn1 hys rfl rfl
  · intro bD cx L hJ
    skip
    exact hJ.elim

theorem c31 {kind base most : Int} {A B : Option Addr} {c d : Nat} {hs : List Int} {rs : List (Int × Int)} {M : Option Addr} {cm : Nat} {ms : List (Int × Int × Int)} {w : World} (hH : K.Rd w A 1 K.eI hs) (hR : K.Rd w B 2 K.eP rs) (hn : hs.length ≤ 4611686018427387904) (hm : rs.length ≤ 4611686018427387904) (hM : K.Rd w M 3 K.eT ms) (hml : ms.length ≤ 4611686018427387904) : Calls Try.prog 34 [.agg #[.int .i64 kind, .int .i64 base, .int .i64 most, .slice A hs.length c, .slice B rs.length d], .slice M ms.length cm].toArray w (K.RetSE 36 2 K.eP (scalesR kind base most hs rs ms) (marksE kind base most hs rs ms) w) := by
  by_cases he : (chk kind base most hs rs).2.2 = 0
  · have h := g31 (A := A) (B := B) (c := c) (d := d) (M := M) (cm := cm) (ms := ms) (w := w) hH hR (chk_good he) hM hml
    have e1 : (if ms.length > 8 then 3 else (K.fst (markE hs.length) ms).2) = marksE kind base most hs rs ms := by unfold marksE; exact (if_neg (fun h => h he)).symm
    rw [e1] at h
    exact h
  · have h := e31 (A := A) (B := B) (c := c) (d := d) (M := M) (cm := cm) (ms := ms) (w := w) hH hR hn hm he
    have e1 : marksE kind base most hs rs ms = (chk kind base most hs rs).2.2 := by unfold marksE; rw [if_pos he]
    have e : scalesR kind base most hs rs ms = [] := by unfold scalesR; rw [if_neg (by rw [e1]; exact he)]
    rw [e, e1]
    exact h


end Go.Proofs.Ytfbglomliankmaa.Sc
end
