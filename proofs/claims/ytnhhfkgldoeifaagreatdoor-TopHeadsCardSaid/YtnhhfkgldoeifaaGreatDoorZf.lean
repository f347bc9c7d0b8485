/-
  Lemmas and walks of functions, joined and with only what the claim needs.
  Conditions stand in each theorem.
-/
import Derived.Test.YtnhhfkgldoeifaaGreatDoorProg
import Derived.Test.YtnhhfkgldoeifaaGreatDoorRows
import Derived.Below
import Derived.Laws.AppendOwn
import Derived.Laws.Rows
import Derived.Laws.Slices
import Derived.Tactics
import Derived.OrdersHeld
import Derived.KernelRfl
import Derived.WalkKit
import Derived.Deep.AppendLies
import Derived.IntWalk
import Derived.Scope
import Derived.WalkSpells
import Derived.DeepKeys
import Derived.Deep.Upon
import Derived.Laws.Small
import Derived.RangeFuncLeaves
import Derived.RangeFuncSeq
import Derived.OrdersIn
import Derived.Sort.LoopGhostIn
import Derived.TacticsIn
import Derived.RangeFuncOwn
import Derived.WideKeyMaps
import Derived.DeepKeys4
import Derived.Carry
import Derived.Laws.CopyRow
import Derived.WalkArith
import Derived.Laws.Closers25b
import Derived.ProofKit
import Derived.OpenShut
import Derived.LaidMore
import Derived.Lay
import Derived.Stop.Joined
import Derived.Lib.LaidTab
import Derived.Shelf.Strconv.Itoa3
import Derived.ChangeOld
import Derived.SizedLaws
import Derived.Deep.Slices
import Derived.Deep.Fields
import Derived.ChangeSame
import Derived.Lib.SmallJoins
import Derived.Laws.MakeOwn
import Derived.WideLaws
import Derived.Shelf.Small.Strs
import Derived.Shelf.Strings.OnBuilder
import Derived.Shelf.Strings.BuilderK
import Derived.Shelf.Strconv.Atoi
import Derived.Shelf.Strings.Prefix
import Derived.Shelf.Strings.Split
import Derived.Shelf.Strings.Search3
import Derived.Shelf.Slices.Turned
import Derived.Lib.FrozenHead
import Derived.Lib.OthersKept
import Derived.Laws.Concat
import Derived.Lib.AtoiErrMem
import Derived.Lib.ItoaNum
import Derived.Lib.Join
import Derived.RecoverIn
import Derived.Lib.IndexBytes
import Derived.Lib.Bytealg
import Derived.SevenTiedAt
import Derived.Test.YtnhhfkgldoeifaaGreatDoorZe
set_option linter.unusedSimpArgs false
set_option linter.unusedVariables false
section
namespace Go.Proofs.YtnhhfkgldoeifaaGreatDoor.Sh
open Go.RowKit Go
open Go.K (setd setn ev nth over cl eI eP eT setM setF)
attribute [local irreducible] K.blk K.row
theorem ulN : Tryz.prog.underlying 156 = some (.map 9 3) := by kernel_rfl
set_option maxRecDepth 100000 in
theorem mapN : K.MapT Tryz.prog 156 9 := ⟨⟨3, ulN, fun w => by kernel_rfl⟩, WideMaps.string_law (by kernel_rfl)⟩
theorem keyN {s : ByteArray} (h : s.size ≤ 16) : ∃ q, keyOf Tryz.prog 9 (.string s) = some q := ⟨_, WideMaps.keyOf_string_mk (by kernel_rfl) (by unfold maxLen; omega)⟩
theorem keyNs {kvs : List (Value × Int)} (h : ∀ p ∈ kvs, ∃ s : ByteArray, p.1 = Value.string s ∧ s.size ≤ 16) : ∀ p ∈ kvs, ∃ q, keyOf Tryz.prog 9 p.1 = some q := fun p hp => by
 obtain ⟨s, e, hs⟩ := h p hp
 rw [e]; exact keyN hs
theorem keyA {kvs : List (Value × Int)} {s : ByteArray} {v : Int} (h : ∀ p ∈ kvs, ∃ q, keyOf Tryz.prog 9 p.1 = some q) (hs : s.size ≤ 16) : ∀ p ∈ kvs ++ [(Value.string s, v)], ∃ q, keyOf Tryz.prog 9 p.1 = some q := fun p hp => by
 rcases List.mem_append.1 hp with h1 | h1
 ·exact h p h1
 ·simp at h1; subst h1; exact keyN hs

set_option maxRecDepth 100000 in
theorem c92 {i : Int} {s : ByteArray} {kvs : List (Value × Int)} {bm br : Nat} {T : List K.Chunk} {w0 w : World} (hst : K.St w0 (K.mq bm none kvs :: K.blk br 156 [.map (some bm)] :: T) w) (hne : ∀ p ∈ kvs, p.1 ≠ Value.string s) (hko : ∀ p ∈ kvs, ∃ q, keyOf Tryz.prog 9 p.1 = some q) (hnm : Pn.nameB s = true) :
  Calls Tryz.prog 92 [.int .i64 i, .string s, .pointer (some ⟨br, 0, none⟩)].toArray w (K.RetU (fun _ : Unit => True) (fun _ => .int .i64 0) w0 (fun _ => K.mq bm none (kvs ++ [(Value.string s, 1)]) :: K.blk br 156 [.map (some bm)] :: T)) := by
 have hs := nm_sz hnm
 refine K.enterU (args := [.int .i64 i, .string s, .pointer (some ⟨br, 0, none⟩)]) Tryz.func92 rfl (n := 16) rfl hst ?_
 refine zR ?_
 refine sr (qa ?_)
 refine sn (sr (ql (K.fA one_156 rfl (K.m1) rfl) ?_))
 refine qm ?_
 refine K.gB (K.lookup_mq mapN rfl rfl (K.m0) (keyN hs) hko) rfl ?_
 rintro n8 hn8
 refine zN ?_
 obtain rfl : n8 = 0 := look_0 hne hn8
 refine zN ?_
 refine qp (K.Pure.eq (K.tA rfl rfl (by omega)) (show _ = Value.int .i64 1 from rfl)) ?_
 refine K.xB (K.mapUpdate_mq mapN rfl rfl rfl (keyN hs) hko (fun _ => K.rp0)) rfl ?_
 rintro kvs4 hput4
 refine zN ?_
 obtain rfl : kvs4 = kvs ++ [(Value.string s, 1)] := put_new hne hput4
 refine zN ?_
 refine sn (K.seq (K.block (sr (qm ?_))))
 refine qc (K.nA cal_36 (fun F w hF hw => (by have hg := Pn.c53 (s := s) w; rw [hnm] at hg; exact hg))) ?_
 first | refine K.mA (K.Pure.eq (K.fC rfl) (show _ = Value.bool false from rfl)) rfl ?_ | refine K.mA (K.Pure.eq (K.not_ rfl) (show _ = Value.bool false from rfl)) rfl ?_
 refine zN ?_
 refine qa ?_
 refine sn (K.oA rfl ?_)
 refine sr (ql (K.fA one_156 rfl (K.m1) rfl) ?_)
 refine qm ?_
 refine K.gB (K.lookup_mq mapN rfl rfl (K.m0) (keyN hs) (keyA hko hs)) rfl ?_
 rintro n17 hn17
 refine zN ?_
 obtain rfl : n17 = 1 := look_1 hne hn17
 refine zN ?_
 refine qp (K.Pure.eq (K.gtr rfl rfl) (show _ = Value.bool false from rfl)) ?_
 refine qa ?_
 refine sn (K.oA rfl ?_)
 refine K.skip (K.kA (K.dA (sr (qa ?_))))
 refine sn (K.ret (et ?_))
 exact K.retsU () trivial rfl Kq.s0

set_option maxRecDepth 100000 in
theorem c91 {pts : List ByteArray} {A : Option Addr} {c bm br : Nat} {T : List K.Chunk} {w0 w : World} (hP : K.Rd w0 A 1 eG pts) (hn : pts.length ≤ 8) (hall : ∀ j, j < pts.length → fshE pts j = 0) (hst : K.St w0 (K.mq bm none [] :: K.blk br 156 [.map (some bm)] :: T) w) :
  Calls Tryz.prog 91 [.slice A pts.length c, .func (.func 92) #[] #[.pointer (some ⟨br, 0, none⟩)]].toArray w (K.RetU (fun _ : Unit => True) (fun _ => .tuple #[.int .i64 0, .int .i64 0]) w0 (fun _ => K.mq bm none (kvN pts pts.length) :: K.blk br 156 [.map (some bm)] :: T)) := by
 refine K.enterU (args := [.slice A pts.length c, .func (.func 92) #[] #[.pointer (some ⟨br, 0, none⟩)]]) Tryz.func91 rfl (n := 23) rfl hst ?_
 refine zR ?_
 refine sr ?_
 iterate 2 refine qa ?_
 refine sn (K.seq (sr (qm ?_)))
 refine qp (K.aB sl_22 rfl) ?_
 refine qm ?_
 refine sn (K.block ?_)
 refine K.loopW [11] [4, 5, 6, 7, 8, 12, 13, 14, 15, 16, 17, 18, 19, 20, 21, 22, 23, 24] (fun vi L => ∃ k : Nat, vi = [.int .i64 (k : Int)] ∧ L = K.mq bm none (kvN pts k) :: K.blk br 156 [.map (some bm)] :: T ∧ k ≤ pts.length) (fun vi => pts.length - (intOf (K.nth vi 0)).toNat) ?_ ?_
 ·exact ⟨0, rfl, rfl, Nat.zero_le _⟩
 intro vi vr L hJ
 obtain ⟨k, rfl, rfl, hkn⟩ := hJ
 refine zY ?_
 refine sr (qp (K.lss rfl rfl) ?_)
 refine sn (K.seq ?_)
 refine K.cond rfl (fun ht12 => ?_) (fun ht12 => ?_)
 ·try replace ht12 := Kq.oT ht12
  have hk : k < pts.length := by omega
  refine K.skip (K.dA (K.seq (K.block (sr (qm ?_)))))
  refine K.vB (M := []) _ hP.sl sl_22 rfl rfl rfl (by omega) rfl ?_
  intro p14 hp14
  refine zN ?_
  refine ql (K.load1 one_9 rfl (hp14.any)) ?_
  iterate 2 refine qa ?_
  refine sn (sr ?_)
  iterate 3 refine qm ?_
  refine K.xB (K.callU (first := []) (cap := [.pointer (some ⟨br, 0, none⟩)]) rfl cal_92 (fun w hw => c92 hw (fsh_ok (hall k hk)).2 (keyNs (kvN_sz (by omega) hall)) (fsh_ok (hall k hk)).1)) rfl ?_
  rintro ⟨⟩ _
  refine zN ?_
  refine qa ?_
  refine sn (sr (qm ?_))
  refine qp (K.Pure.eq (K.neq rfl rfl) (show _ = Value.bool false from rfl)) ?_
  refine sn (K.oA rfl ?_)
  refine K.skip (K.kA (K.dA (K.gA (qp (K.tA rfl rfl (by omega)) ?_))))
  refine qm ?_
  refine K.lA ?_
  exact K.rA (L'' := K.mq bm none (kvN pts (k + 1)) :: K.blk br 156 [.map (some bm)] :: T) [.int .i64 ((k : Int) + 1)] ⟨k + 1, rfl, rfl, by omega⟩ (by simp [K.nth, intOf]; omega) (by rw [kvN_s hk]; exact List.Sublist.refl _) (by kernel_rfl)
 try replace ht12 := Kq.oF ht12
 refine K.exit (K.pA (K.pA (K.zA (K.dA (sr ?_)))))
 iterate 2 refine qa ?_
 refine sn (K.ret ?_)
 refine K.wA (fun w _ => K.qB rfl w) ?_
 have e0 : k = pts.length := by omega
 subst e0
 exact K.retsU () trivial rfl Kq.s0

end Go.Proofs.YtnhhfkgldoeifaaGreatDoor.Sh
end
section
namespace Go.Proofs.YtnhhfkgldoeifaaGreatDoor.Sh
open Go.RowKit Go
open Go.K (setd setn ev nth over cl eI eP eT setM setF)
attribute [local irreducible] K.blk K.row
theorem bsI26 (a : Int) : K.Bs Tryz.prog 26 1 [(0, .int .i64 a)] 3 [.int .i64 a] := fun w => by kernel_rfl

set_option maxRecDepth 100000 in
theorem c94 {iv : Int} {pts : List ByteArray} {nts : List NtT} {A B : Option Addr} {c d : Nat} {i : Int} {x : NtT} {p : Addr} {w : World} (hp : K.PtrL w [] p [.int .i64 iv, .slice A pts.length c, .slice B nts.length d]) (he : ntE iv pts.length x = 0) (hi : 1 ≤ iv ∧ iv ≤ 1000) (hn : pts.length ≤ 8) :
  Calls Tryz.prog 94 [.int .i64 i, .agg #[.int .i64 x.kd, .int .i64 x.a, .int .i64 x.b, .int .i64 x.lo, .int .i64 x.hi], .pointer (some p)].toArray w (K.Gives (.int .i64 0) w) := by
 refine K.enter (args := [.int .i64 i, .agg #[.int .i64 x.kd, .int .i64 x.a, .int .i64 x.b, .int .i64 x.lo, .int .i64 x.hi], .pointer (some p)]) Tryz.func94 rfl (n := 6) rfl ?_
 refine zR ?_
 refine sr ?_
 refine qn (K.box) fun b4 => ?_
 refine qa ?_
 refine sn (sr (ql (K.uB ag_25 rfl (hp.any) rfl) ?_))
 refine ql (K.jA ag_58 rfl (K.m0) rfl) ?_
 refine qc (K.nA cal_95 (fun F w hF hw => c95 he hi hn)) ?_
 refine qa ?_
 refine sn (K.ret (et ?_))
 exact K.gives rfl

set_option maxRecDepth 100000 in
theorem c93 {nts : List NtT} {B : Option Addr} {d : Nat} {p : Addr} {w : World} (hN : K.Rd w B 5 eO nts) (hn : nts.length ≤ 12) (hf : ∀ j, j < nts.length → ∀ w1, Below w.heap.size w w1 → Calls Tryz.prog 94 [.int .i64 (j : Int), .agg #[.int .i64 (nts.getD j default).kd, .int .i64 (nts.getD j default).a, .int .i64 (nts.getD j default).b, .int .i64 (nts.getD j default).lo, .int .i64 (nts.getD j default).hi], .pointer (some p)].toArray w1 (K.Gives (.int .i64 0) w1)) :
  Calls Tryz.prog 93 [.slice B nts.length d, .func (.func 94) #[] #[.pointer (some p)]].toArray w (K.Gives (.tuple #[.int .i64 0, .int .i64 0]) w) := by
 refine K.enter (args := [.slice B nts.length d, .func (.func 94) #[] #[.pointer (some p)]]) Tryz.func93 rfl (n := 23) rfl ?_
 refine zR ?_
 refine sr ?_
 iterate 2 refine qa ?_
 refine sn (K.seq (sr (qm ?_)))
 refine qp (K.aB sl_23 rfl) ?_
 refine qm ?_
 refine sn (K.block ?_)
 refine K.loopW [11] [4, 5, 6, 7, 8, 12, 13, 14, 15, 16, 17, 18, 19, 20, 21, 22, 23, 24] (fun vi L => ∃ k : Nat, vi = [.int .i64 (k : Int)] ∧ L = [] ∧ k ≤ nts.length) (fun vi => nts.length - (intOf (K.nth vi 0)).toNat) ?_ ?_
 ·exact ⟨0, rfl, rfl, Nat.zero_le _⟩
 intro vi vr L hJ
 obtain ⟨k, rfl, rfl, hkn⟩ := hJ
 refine zY ?_
 refine sr (qp (K.lss rfl rfl) ?_)
 refine sn (K.seq ?_)
 refine K.cond rfl (fun ht12 => ?_) (fun ht12 => ?_)
 ·try replace ht12 := Kq.oT ht12
  have hk : k < nts.length := by omega
  refine K.skip (K.dA (K.seq (K.block (sr (qm ?_)))))
  refine K.vB (M := []) _ hN.sl sl_23 rfl rfl rfl (by omega) rfl ?_
  intro p14 hp14
  refine zN ?_
  refine ql (K.uB ag_58 rfl (hp14.any) rfl) ?_
  refine qn (K.alloc zr_58) fun b7 => ?_
  refine qa ?_
  refine qt (K.vA sz_58 rfl rfl rfl rfl (K.rp0)) ?_
  refine sn (sr ?_)
  iterate 2 refine qm ?_
  refine ql (K.jA ag_58 rfl (K.m0) rfl) ?_
  refine qc (K.callv_g (first := []) (cap := [.pointer (some p)]) rfl cal_94 (fun F w hF hw => hf k hk w hw.1)) ?_
  refine qa ?_
  refine sn (sr (qm ?_))
  refine qp (K.Pure.eq (K.neq rfl rfl) (show _ = Value.bool false from rfl)) ?_
  refine sn (K.oA rfl ?_)
  refine K.skip (K.kA (K.dA (K.gA (qp (K.tA rfl rfl (by omega)) ?_))))
  refine qm ?_
  refine K.lA ?_
  exact K.rA (L'' := []) [.int .i64 ((k : Int) + 1)] ⟨k + 1, rfl, rfl, by omega⟩ (by simp [K.nth, intOf]; omega) (List.nil_sublist _) (by kernel_rfl)
 try replace ht12 := Kq.oF ht12
 refine K.exit (K.pA (K.pA (K.zA (K.dA (sr ?_)))))
 iterate 2 refine qa ?_
 refine sn (K.ret ?_)
 refine K.wA (fun w _ => K.qB rfl w) ?_
 exact K.gives rfl

set_option maxRecDepth 100000 in
set_option maxHeartbeats 1000000 in
theorem c58 {iv : Int} {pts : List ByteArray} {nts : List NtT} {A B : Option Addr} {c d : Nat} {w : World} (hP : K.Rd w A 1 eG pts) (hN : K.Rd w B 5 eO nts) (g : GoodS iv pts nts) :
  Calls Tryz.prog 58 [.agg #[.int .i64 iv, .slice A pts.length c, .slice B nts.length d]].toArray w (K.Gives (.tuple #[.int .i64 0, .int .i64 0, .int .i64 0]) w) := by
 have hgi := g.i
 have hgn := g.n
 have hgl := g.l
 refine K.enter (args := [.agg #[.int .i64 iv, .slice A pts.length c, .slice B nts.length d]]) Tryz.func58 rfl (n := 45) rfl ?_
 refine zR ?_
 refine sr ?_
 refine qn (K.box) fun b1 => ?_
 iterate 3 refine qa ?_
 refine sn (K.seq (K.block (sr (qp (K.aA fo_25_0 rfl) ?_))))
 refine ql (K.fA one_3 rfl (K.m0) rfl) ?_
 refine qn (K.buildSlice (bsI26 _)) fun b9 => ?_
 refine qc (K.nA cal_59 (fun F w hF hw => c59_1f (by omega) hw (hF _ (K.m0)))) ?_
 refine qa ?_
 refine sn (K.oA rfl ?_)
 refine sr (qp (K.aA fo_25_1 rfl) ?_)
 refine ql (K.fA one_22 rfl (K.m1) rfl) ?_
 refine qp (K.aB sl_22 rfl) ?_
 refine qn (K.buildSlice (bsI26 _)) fun b15 => ?_
 refine qc (K.nA cal_59 (fun F w hF hw => c59_1f (by omega) hw (hF _ (K.m0)))) ?_
 refine qa ?_
 refine sn (K.oA rfl ?_)
 refine K.skip (K.kA (K.dA (sr ?_)))
 refine qn (K.mkMap_q) fun b17 => ?_
 refine qn (K.alloc zr_156) fun b5 => ?_
 refine qt (K.store sz_156 rfl rfl rfl rfl (K.rp0)) ?_
 refine sn (K.seq ?_)
 refine K.permH (L' := [_, _, _, _, _]) (Kq.pz (Kq.p0)) ?_
 refine K.gA (qp (K.aA fo_25_1 rfl) ?_)
 refine ql (K.fA one_22 rfl (K.m4) rfl) ?_
 refine K.mA (K.mkFunc) rfl ?_
 refine zN ?_
 refine K.xB (K.callU_f cal_91 (fun w hw => c91 (T := [_, _, _]) hP hgn.2 g.f hw)) rfl ?_
 rintro ⟨⟩ _
 refine zN ?_
 refine qm ?_
 iterate 2 refine qx ?_
 iterate 2 refine qa ?_
 refine sn (K.seq (K.block (sr (qm ?_))))
 refine qp (K.Pure.eq (K.neq rfl rfl) (show _ = Value.bool false from rfl)) ?_
 refine qa ?_
 refine sn (K.oA rfl ?_)
 refine sr (qp (K.aA fo_25_2 rfl) ?_)
 refine ql (K.fA one_23 rfl (K.m4) rfl) ?_
 refine qp (K.aB sl_23 rfl) ?_
 refine qp (K.Pure.eq (K.gtr rfl rfl) (show _ = Value.bool false from congrArg Value.bool (decide_eq_false (by omega)))) ?_
 refine qa ?_
 refine sn (K.oA rfl ?_)
 refine K.skip (K.kA (K.dA (K.seq (sr (qp (K.aA fo_25_2 rfl) ?_)))))
 refine ql (K.fA one_23 rfl (K.m4) rfl) ?_
 refine K.mA (K.mkFunc) rfl ?_
 refine zN ?_
 refine qc (K.nA cal_93 (fun F w hF hw => c93 (hN.pass hw) hgl (fun j hj w1 hb => c94 (K.PtrL.pass hw (hF _ (K.m4)) hb) (g.t j hj) hgi hgn.2))) ?_
 refine qm ?_
 iterate 2 refine qx ?_
 iterate 2 refine qa ?_
 refine sn (sr (qm ?_))
 refine qp (K.Pure.eq (K.neq rfl rfl) (show _ = Value.bool false from rfl)) ?_
 refine sn (K.oA rfl ?_)
 refine K.skip (K.dA (sr ?_))
 iterate 3 refine qa ?_
 refine sn (K.ret ?_)
 refine K.wA (fun w _ => K.wB rfl w) ?_
 exact K.gives rfl

end Go.Proofs.YtnhhfkgldoeifaaGreatDoor.Sh
end
section
namespace Go.Proofs.YtnhhfkgldoeifaaGreatDoor.Sh
open Go
theorem mkB_cong {f g : Nat → Nat → Int} (h : ∀ i k, i < 9 → k < 9 → f i k = g i k) : mkB f = mkB g := by
 unfold mkB
 refine List.map_congr_left fun x hx => ?_
 have := List.mem_range.1 hx
 exact h _ _ (by omega) (by omega)
theorem mkB_set {f : Nat → Nat → Int} {i k : Nat} {v : Int} (hi : i < 9) (hk : k < 9) : (mkB f).set (i * 9 + k) v = mkB (fun a c => if a = i ∧ c = k then v else f a c) := by
 refine List.ext_getElem? fun j => ?_
 rw [List.getElem?_set]
 unfold mkB
 rw [List.getElem?_map, List.getElem?_map, List.length_map, List.length_range]
 rcases Nat.lt_or_ge j 81 with hj | hj
 ·rw [List.getElem?_range hj]
  split
  ·rename_i e
   rw [if_pos (by omega)]
   show some v = some (if j / 9 = i ∧ j % 9 = k then v else _)
   rw [if_pos (by omega)]
  ·rename_i e
   show some (f (j / 9) (j % 9)) = some (if j / 9 = i ∧ j % 9 = k then v else _)
   rw [if_neg (by omega)]
 ·rw [if_neg (by omega), List.getElem?_eq_none (by rw [List.length_range]; exact hj)]; rfl
def fz (i k : Nat) : List Int := mkB fun a c => if a < i ∨ (a = i ∧ c < k) then frE a c else 0
theorem fz_len {i k : Nat} : (fz i k).length = 81 := mkB_len
theorem fz_set {i k : Nat} (hi : i < 9) (hk : k < 9) (h : i ≠ k ∧ k ≠ 8) : (fz i k).set (i * 9 + k) 9000 = fz i (k + 1) := by
 unfold fz; rw [mkB_set hi hk]
 refine mkB_cong fun a c _ _ => ?_
 by_cases e : a = i ∧ c = k
 ·rw [if_pos e, if_pos (by omega)]; unfold frE; rw [if_pos (by omega)]
 ·rw [if_neg e]
  by_cases e2 : a < i ∨ (a = i ∧ c < k)
  ·rw [if_pos e2, if_pos (by omega)]
  ·rw [if_neg e2, if_neg (by omega)]
theorem fz_stay {i k : Nat} (h : ¬ (i ≠ k ∧ k ≠ 8)) : fz i k = fz i (k + 1) := by
 unfold fz
 refine mkB_cong fun a c _ _ => ?_
 by_cases e : a = i ∧ c = k
 ·rw [if_neg (by omega), if_pos (by omega)]; unfold frE; rw [if_neg (by omega)]
 ·by_cases e2 : a < i ∨ (a = i ∧ c < k)
  ·rw [if_pos e2, if_pos (by omega)]
  ·rw [if_neg e2, if_neg (by omega)]
theorem fz_row {i : Nat} : fz i 9 = fz (i + 1) 0 := by
 unfold fz
 refine mkB_cong fun a c _ _ => ?_
 by_cases e2 : a < i ∨ (a = i ∧ c < 9)
 ·rw [if_pos e2, if_pos (by omega)]
 ·rw [if_neg e2, if_neg (by omega)]
theorem fz_all : fz 9 0 = freB := by
 unfold fz freB
 exact mkB_cong fun a c _ _ => by rw [if_pos (by omega)]
def bz (b : List Int) (f t : Nat) (m : Int) (i k : Nat) : List Int := mkB fun a c => if a < i ∨ (a = i ∧ c < k) then min (bat b a c) (bat b a f + m + bat b t c) else bat b a c
theorem bz_len {b : List Int} {f t i k : Nat} {m : Int} : (bz b f t m i k).length = 81 := mkB_len
theorem bz_0 {b : List Int} {f t : Nat} {m : Int} (h : b.length = 81) : bz b f t m 0 0 = b := by
 refine List.ext_getElem? fun j => ?_
 unfold bz mkB
 rw [List.getElem?_map]
 rcases Nat.lt_or_ge j 81 with hj | hj
 ·rw [List.getElem?_range hj]
  show some (if j / 9 < 0 ∨ (j / 9 = 0 ∧ j % 9 < 0) then _ else bat b (j / 9) (j % 9)) = _
  rw [if_neg (by omega)]
  unfold bat
  rw [show j / 9 * 9 + j % 9 = j by omega, List.getD_eq_getElem?_getD, List.getElem?_eq_getElem (by omega)]; rfl
 ·rw [List.getElem?_eq_none (by rw [List.length_range]; exact hj), List.getElem?_eq_none (by omega)]; rfl
theorem bz_set {b : List Int} {f t i k : Nat} {m : Int} (hi : i < 9) (hk : k < 9) : (bz b f t m i k).set (i * 9 + k) (min (bat b i k) (bat b i f + m + bat b t k)) = bz b f t m i (k + 1) := by
 unfold bz; rw [mkB_set hi hk]
 refine mkB_cong fun a c _ _ => ?_
 by_cases e : a = i ∧ c = k
 ·rw [if_pos e, if_pos (by omega), e.1, e.2]
 ·rw [if_neg e]
  by_cases e2 : a < i ∨ (a = i ∧ c < k)
  ·rw [if_pos e2, if_pos (by omega)]
  ·rw [if_neg e2, if_neg (by omega)]
theorem bz_row {b : List Int} {f t i : Nat} {m : Int} : bz b f t m i 9 = bz b f t m (i + 1) 0 := by
 unfold bz
 refine mkB_cong fun a c _ _ => ?_
 by_cases e2 : a < i ∨ (a = i ∧ c < 9)
 ·rw [if_pos e2, if_pos (by omega)]
 ·rw [if_neg e2, if_neg (by omega)]
theorem bz_all {b : List Int} {f t : Nat} {m : Int} : bz b f t m 9 0 = binS b f t m := by
 unfold bz binS
 exact mkB_cong fun a c _ _ => by rw [if_pos (by omega)]
theorem bz_at {b : List Int} {f t i k a c : Nat} {m : Int} (ha : a < 9) (hc : c < 9) : bat (bz b f t m i k) a c = if a < i ∨ (a = i ∧ c < k) then min (bat b a c) (bat b a f + m + bat b t c) else bat b a c := by
 unfold bz; rw [mkB_at ha hc]
end Go.Proofs.YtnhhfkgldoeifaaGreatDoor.Sh
end
section
namespace Go.Proofs.YtnhhfkgldoeifaaGreatDoor.Sh
open Go
theorem nt_mul {iv : Int} {n : Nat} {x : NtT} (h : NtB iv n x) (hi : 1 ≤ iv) (hk : x.kd = 2) : (0 ≤ x.lo * iv ∧ x.lo * iv ≤ 9000) ∧ (0 ≤ x.hi * iv ∧ x.hi * iv ≤ 9000) := by
 have hr := h.r2 hk
 have h1 := Int.mul_le_of_le_ediv (a := x.lo) (b := 9000) (c := iv) (by omega) hr.1.1.2
 have h2 := Int.mul_le_of_le_ediv (a := x.hi) (b := 9000) (c := iv) (by omega) hr.1.2.2
 exact ⟨⟨Int.mul_nonneg hr.1.1.1 (by omega), h1⟩, ⟨Int.mul_nonneg hr.1.2.1 (by omega), h2⟩⟩
theorem nt_ab {iv : Int} {n : Nat} {x : NtT} (h : NtB iv n x) : x.a = ((x.a.toNat : Nat) : Int) ∧ x.b = ((x.b.toNat : Nat) : Int) := by
 have h1 := h.a
 have h2 := h.b
 omega
theorem nt_lh {iv : Int} {n : Nat} {x : NtT} (h : NtB iv n x) (hi : 1 ≤ iv ∧ iv ≤ 1000) : (-9000 ≤ x.lo ∧ x.lo ≤ 9000) ∧ (-9000 ≤ x.hi ∧ x.hi ≤ 9000) := by
 have hk := h.k
 have hq : 0 ≤ (9000 : Int) / iv ∧ (9000 : Int) / iv ≤ 9000 := ⟨Int.ediv_nonneg (by decide) (by omega), Int.ediv_le_self iv (by decide)⟩
 by_cases h1 : x.kd = 1
 ·have := h.r1 h1; omega
 ·by_cases h2 : x.kd = 2
  ·have := h.r2 h2; omega
  ·by_cases h3 : x.kd = 3
   ·have := h.r3 h3; omega
   ·have := h.r4 (by omega); omega
theorem bnd_sm {iv w : Int} {n : Nat} {x : NtT} (h : NtB iv n x) (hn : n ≤ 8) (hi : 1 ≤ iv ∧ iv ≤ 1000) (hw : 0 ≤ w ∧ w ≤ 50000) : ((bnd1 iv x w).1 < 9 ∧ (bnd1 iv x w).2.1 < 9 ∧ -100000 ≤ (bnd1 iv x w).2.2 ∧ (bnd1 iv x w).2.2 ≤ 100000) ∧ ((bnd2 iv x w).1 < 9 ∧ (bnd2 iv x w).2.1 < 9 ∧ -100000 ≤ (bnd2 iv x w).2.2 ∧ (bnd2 iv x w).2.2 ≤ 100000) := by
 have ha := h.a
 have hb := h.b
 have hl := nt_lh h hi
 constructor
 ·unfold bnd1
  split
  ·dsimp only; omega
  ·split
   ·rename_i h2; have := nt_mul h hi.1 h2; dsimp only; omega
   ·dsimp only; omega
 ·unfold bnd2
  split
  ·dsimp only; omega
  ·split
   ·rename_i h2; have := nt_mul h hi.1 h2; dsimp only; omega
   ·dsimp only; omega
end Go.Proofs.YtnhhfkgldoeifaaGreatDoor.Sh
end
section
namespace Go.Proofs.YtnhhfkgldoeifaaGreatDoor.Sh
open Go.RowKit Go
open Go.K (setd setn ev nth over cl eI eP eT setM setF)
attribute [local irreducible] K.blk K.row
theorem mx_at {B : List Int} {i k : Nat} (hl : B.length = 81) (hi : i < 9) (hk : k < 9) : (List.drop 0 (K.mI B))[0 + i * 9 + k]? = some (.int .i64 (bat B i k)) := by
 rw [K.mI_at (by omega), Nat.zero_add]; rfl
theorem mx_set {B B' : List Int} {i k : Nat} {v : Int} (hl : B.length = 81) (hi : i < 9) (hk : k < 9) (h : B.set (i * 9 + k) v = B') : K.over (K.mI B) (0 + i * 9 + k) (K.cl (.int .i64 v)) = K.mI B' := by
 rw [K.mI_set (by omega), Nat.zero_add, h]
theorem mx_len {B : List Int} (hl : B.length = 81) : (K.mI B).length = 81 := by rw [K.mI_len, hl]

set_option maxRecDepth 100000 in
theorem c62 (w : World) :
  Calls Tryz.prog 62 [].toArray w (K.Gives (.agg (K.mI freB).toArray) w) := by
 refine K.enter (args := []) Tryz.func62 rfl (n := 23) rfl ?_
 refine zR ?_
 refine sr ?_
 refine qn (K.alloc zr_94) fun b0 => ?_
 refine sn (K.seq (sr (qm ?_)))
 refine sn (K.block ?_)
 refine K.loopW [3] [1, 2, 4, 5, 6, 7, 8, 9, 10, 11, 12, 13, 14, 15, 16, 17, 18, 19, 20, 21] (fun vi L => ∃ i : Nat, vi = [.int .i64 (i : Int)] ∧ L = [K.blk b0 94 (K.mI (fz i 0))] ∧ i ≤ 9) (fun vi => 9 - (intOf (K.nth vi 0)).toNat) ?_ ?_
 ·exact ⟨0, rfl, by kernel_rfl, Nat.zero_le _⟩
 intro vi vr L hJ
 obtain ⟨i, rfl, rfl, hin⟩ := hJ
 refine zY ?_
 refine sr (qp (K.lss rfl rfl) ?_)
 refine sn (K.seq ?_)
 refine K.cond rfl (fun ht4 => ?_) (fun ht4 => ?_)
 ·try replace ht4 := Kq.oT ht4
  have hi9 : i < 9 := by omega
  refine K.skip (K.dA (K.seq (K.block (sr (qm ?_)))))
  refine qa ?_
  refine sn (sr (qm ?_))
  refine sn (K.block ?_)
  refine K.loopW [6] [2, 7, 8, 9, 10, 11, 12, 13, 14, 15, 16, 17, 18, 19, 20] (fun vi L => ∃ k : Nat, vi = [.int .i64 (k : Int)] ∧ L = [K.blk b0 94 (K.mI (fz i k))] ∧ k ≤ 9) (fun vi => 9 - (intOf (K.nth vi 0)).toNat) ?_ ?_
  ·exact ⟨0, rfl, rfl, Nat.zero_le _⟩
  intro vi vr L hJ
  obtain ⟨k, rfl, rfl, hkn⟩ := hJ
  refine zY ?_
  refine sr (qp (K.lss rfl rfl) ?_)
  refine sn (K.seq ?_)
  refine K.cond rfl (fun ht7 => ?_) (fun ht7 => ?_)
  ·try replace ht7 := Kq.oT ht7
   have hk9 : k < 9 := by omega
   refine K.skip (K.dA (K.seq (K.block (sr (qm ?_)))))
   refine qa ?_
   refine sn (sr ?_)
   iterate 2 refine qm ?_
   refine qp (K.neq rfl rfl) ?_
   refine qm ?_
   refine K.split 12 rfl (fun hg12 => ?_) (fun hg12 => ?_)
   ·try replace hg12 := Kq.oT hg12
    refine qm ?_
    refine qp (K.neq rfl rfl) ?_
    refine qp (K.sA rfl) ?_
    refine sn ?_
    refine K.cond rfl (fun ht15 => ?_) (fun ht15 => ?_)
    ·try replace ht15 := Kq.oT ht15
     have hset : K.over (K.mI (fz i k)) (0 + i * 9 + k) (K.cl (.int .i64 9000)) = K.mI (fz i (k + 1)) := mx_set fz_len hi9 hk9 (fz_set hi9 hk9 (by omega))
     have hfit : 0 + i * 9 + k + 1 ≤ (K.mI (fz i k)).length := by rw [mx_len fz_len]; omega
     refine K.gA ?_
     iterate 2 refine qm ?_
     refine K.mA (K.Pure.eq (K.iB ar_94 rfl rfl (by omega) (by omega)) (show _ = Value.pointer (some ⟨b0, 0 + i * 9, none⟩) from by rw [Int.toNat_natCast])) rfl ?_
     refine zN ?_
     refine K.mA (K.Pure.eq (K.iB ar_92 rfl rfl (by omega) (by omega)) (show _ = Value.pointer (some ⟨b0, 0 + i * 9 + k, none⟩) from by rw [Int.toNat_natCast, Nat.mul_one])) rfl ?_
     refine zN ?_
     refine qt (K.store_ix (cs := K.mI (fz i k)) sz_3 rfl rfl hfit rfl (K.rpe K.rp0 (congrArg (K.blk b0 94) hset.symm))) ?_
     refine zN ?_
     refine K.lA (K.kA (K.dA (K.gA (qp (K.tA rfl rfl (by omega)) ?_))))
     refine qm ?_
     refine K.lA ?_
     exact K.rA (L'' := [K.blk b0 94 (K.mI (fz i (k + 1)))]) [.int .i64 ((k : Int) + 1)] ⟨k + 1, rfl, rfl, by omega⟩ (by simp [K.nth, intOf]; omega) Kq.s0 (by kernel_rfl)
    try replace ht15 := Kq.oF ht15
    refine K.skip (K.kA (K.dA (K.gA (qp (K.tA rfl rfl (by omega)) ?_))))
    refine qm ?_
    refine K.lA ?_
    exact K.rA (L'' := [K.blk b0 94 (K.mI (fz i (k + 1)))]) [.int .i64 ((k : Int) + 1)] ⟨k + 1, rfl, rfl, by omega⟩ (by simp [K.nth, intOf]; omega) (by rw [← fz_stay (by omega)]; exact List.Sublist.refl _) (by kernel_rfl)
   try replace hg12 := Kq.oF hg12
   iterate 2 refine qs ?_
   refine qp (K.dB rfl) ?_
   refine sn (K.oA rfl ?_)
   refine K.skip (K.kA (K.dA (K.gA (qp (K.tA rfl rfl (by omega)) ?_))))
   refine qm ?_
   refine K.lA ?_
   exact K.rA (L'' := [K.blk b0 94 (K.mI (fz i (k + 1)))]) [.int .i64 ((k : Int) + 1)] ⟨k + 1, rfl, rfl, by omega⟩ (by simp [K.nth, intOf]; omega) (by rw [← fz_stay (by omega)]; exact List.Sublist.refl _) (by kernel_rfl)
  try replace ht7 := Kq.oF ht7
  obtain rfl : k = 9 := by omega
  rw [fz_row]
  refine K.exit (K.pA (K.pA (K.zA (K.kA (K.dA (K.gA (qp (K.tA rfl rfl (by omega)) ?_)))))))
  refine qm ?_
  refine K.lA ?_
  exact K.rA (L'' := [K.blk b0 94 (K.mI (fz (i + 1) 0))]) [.int .i64 ((i : Int) + 1)] ⟨i + 1, rfl, rfl, by omega⟩ (by simp [K.nth, intOf]; omega) Kq.s0 (by kernel_rfl)
 try replace ht4 := Kq.oF ht4
 obtain rfl : i = 9 := by omega
 rw [fz_all]
 refine K.exit (K.pA (K.pA (K.zA (K.dA (sr (ql (K.load_mx uC rfl ((K.m0)) (mx_len mkB_len)) ?_))))))
 refine qt (K.store_mx sz_94 rfl rfl (mx_len mkB_len) (mx_len mkB_len) K.mI_one K.rp0) ?_
 refine zN ?_
 refine sn (K.ret ?_)
 refine K.wA (fun w hw => K.res_c rfl rfl (K.run_cellM uC rfl (K.m0) (mx_len mkB_len) w hw)) ?_
 exact K.gives rfl

end Go.Proofs.YtnhhfkgldoeifaaGreatDoor.Sh
end
section
namespace Go.Proofs.YtnhhfkgldoeifaaGreatDoor.Sh
open Go.RowKit Go
open Go.K (setd setn ev nth over cl eI eP eT setM setF)
attribute [local irreducible] K.blk K.row
theorem b1_y {B : List Int} {f t : Nat} {m : Int} (h : m ≥ bat B f t) : bind1 B f t m = some B := by unfold bind1; rw [if_pos h]
theorem b1_n {B : List Int} {f t : Nat} {m : Int} (h : ¬ m ≥ bat B f t) (h2 : m + bat B t f < 0) : bind1 B f t m = none := by unfold bind1; rw [if_neg h, if_pos h2]
theorem b1_s {B : List Int} {f t : Nat} {m : Int} (h : ¬ m ≥ bat B f t) (h2 : ¬ m + bat B t f < 0) : bind1 B f t m = some (binS B f t m) := by unfold bind1; rw [if_neg h, if_neg h2]
section
variable {B : List Int} {f t i k : Nat} {m : Int}
theorem bc_1 (hi : i < 9) (hk : k < 9) : (List.drop 0 (K.mI (bz B f t m i k)))[0 + i * 9 + k]? = some (.int .i64 (bat B i k)) := by
 rw [mx_at bz_len hi hk, bz_at hi hk, if_neg (by omega)]
theorem bc_2 (hi : i < 9) (hf : f < 9) (h : ¬ m + bat B t f < 0) : (List.drop 0 (K.mI (bz B f t m i k)))[0 + i * 9 + f]? = some (.int .i64 (bat B i f)) := by
 rw [mx_at bz_len hi hf, bz_at hi hf]
 split
 ·rw [show min (bat B i f) (bat B i f + m + bat B t f) = bat B i f by omega]
 ·rfl
theorem bc_3 (ht : t < 9) (hk : k < 9) (h : ¬ m + bat B t f < 0) : (List.drop 0 (K.mI (bz B f t m i k)))[0 + t * 9 + k]? = some (.int .i64 (bat B t k)) := by
 rw [mx_at bz_len ht hk, bz_at ht hk]
 split
 ·rw [show min (bat B t k) (bat B t f + m + bat B t k) = bat B t k by omega]
 ·rfl
end

set_option maxRecDepth 100000 in
set_option maxHeartbeats 2000000 in
theorem c60 {B : List Int} {f t bm : Nat} {m : Int} {T : List K.Chunk} {w0 w : World} (hst : K.St w0 (K.blk bm 94 (K.mI B) :: T) w) (hl : B.length = 81) (hf : f < 9) (ht : t < 9) (hb : ∀ i k, i < 9 → k < 9 → -9000 ≤ bat B i k ∧ bat B i k ≤ 9000) (hm : -100000 ≤ m ∧ m ≤ 100000) :
  Calls Tryz.prog 60 [.pointer (some ⟨bm, 0, none⟩), .int .i64 (f : Int), .int .i64 (t : Int), .int .i64 m].toArray w (K.RetU (fun _ : Unit => True) (fun _ => .bool (bind1 B f t m).isSome) w0 (fun _ => K.blk bm 94 (K.mI ((bind1 B f t m).getD B)) :: T)) := by
 have hft := hb f t hf ht
 have htf := hb t f ht hf
 have hc0 := mx_at hl hf ht
 have hc9 := mx_at hl ht hf
 refine K.enterU (args := [.pointer (some ⟨bm, 0, none⟩), .int .i64 (f : Int), .int .i64 (t : Int), .int .i64 m]) Tryz.func60 rfl (n := 65) rfl hst ?_
 refine zR ?_
 refine sr (qa ?_)
 refine sn (K.seq (sr ?_))
 iterate 4 refine qm ?_
 refine qp (K.nilCheck rfl) ?_
 refine K.mA (K.Pure.eq (K.iB ar_94 rfl rfl (by omega) (by omega)) (show _ = Value.pointer (some ⟨bm, 0 + f * 9, none⟩) from by rw [Int.toNat_natCast])) rfl ?_
 refine zN ?_
 refine K.mA (K.Pure.eq (K.iB ar_92 rfl rfl (by omega) (by omega)) (show _ = Value.pointer (some ⟨bm, 0 + f * 9 + t, none⟩) from by rw [Int.toNat_natCast, Nat.mul_one])) rfl ?_
 refine zN ?_
 refine ql (K.mB one_3 rfl (K.PtrL.own' ((K.m0))) hc0) ?_
 refine qp (K.geq rfl rfl) ?_
 refine sn ?_
 refine K.cond rfl (fun ht19 => ?_) (fun ht19 => ?_)
 ·try replace ht19 := Kq.oT ht19
  refine sr (qa ?_)
  refine sn (K.ret (K.iA (et ?_)))
  exact K.retsU () trivial (by rw [b1_y (by omega)]; rfl) (by rw [b1_y (by omega)]; exact List.Sublist.refl _)
 try replace ht19 := Kq.oF ht19
 refine K.skip (K.dA (K.seq (sr ?_)))
 iterate 4 refine qm ?_
 refine qp (K.nilCheck rfl) ?_
 refine K.mA (K.Pure.eq (K.iB ar_94 rfl rfl (by omega) (by omega)) (show _ = Value.pointer (some ⟨bm, 0 + t * 9, none⟩) from by rw [Int.toNat_natCast])) rfl ?_
 refine zN ?_
 refine K.mA (K.Pure.eq (K.iB ar_92 rfl rfl (by omega) (by omega)) (show _ = Value.pointer (some ⟨bm, 0 + t * 9 + f, none⟩) from by rw [Int.toNat_natCast, Nat.mul_one])) rfl ?_
 refine zN ?_
 refine ql (K.mB one_3 rfl (K.PtrL.own' ((K.m0))) hc9) ?_
 refine qp (K.tA rfl rfl (by omega)) ?_
 refine qp (K.lss rfl rfl) ?_
 refine sn ?_
 refine K.cond rfl (fun ht29 => ?_) (fun ht29 => ?_)
 ·try replace ht29 := Kq.oT ht29
  refine sr (qa ?_)
  refine sn (K.ret (K.iA (et ?_)))
  exact K.retsU () trivial (by rw [b1_n (by omega) (by omega)]; rfl) (by rw [b1_n (by omega) (by omega)]; exact List.Sublist.refl _)
 try replace ht29 := Kq.oF ht29
 refine K.skip (K.dA (K.seq (sr (qm ?_))))
 refine sn (K.block ?_)
 refine K.loopW [30] [9, 10, 31, 32, 33, 34, 35, 36, 37, 38, 39, 40, 41, 42, 43, 44, 45, 46, 47, 48, 49, 50, 51, 52, 53, 54, 55, 56, 57, 58, 59, 60, 61, 62, 63, 64, 65, 66, 67, 68] (fun vi L => ∃ i : Nat, vi = [.int .i64 (i : Int)] ∧ L = K.blk bm 94 (K.mI (bz B f t m i 0)) :: T ∧ i ≤ 9) (fun vi => 9 - (intOf (K.nth vi 0)).toNat) ?_ ?_
 ·exact ⟨0, rfl, by rw [bz_0 hl], Nat.zero_le _⟩
 intro vi vr L hJ
 obtain ⟨i, rfl, rfl, hin⟩ := hJ
 refine zY ?_
 refine sr (qp (K.lss rfl rfl) ?_)
 refine sn (K.seq ?_)
 refine K.cond rfl (fun ht31 => ?_) (fun ht31 => ?_)
 ·try replace ht31 := Kq.oT ht31
  have hi9 : i < 9 := by omega
  refine K.skip (K.dA (K.seq (K.block (sr (qm ?_)))))
  refine qa ?_
  refine sn (sr (qm ?_))
  refine sn (K.block ?_)
  refine K.loopW [33] [10, 34, 35, 36, 37, 38, 39, 40, 41, 42, 43, 44, 45, 46, 47, 48, 49, 50, 51, 52, 53, 54, 55, 56, 57, 58, 59, 60, 61, 62, 63, 64, 65, 66, 67] (fun vi L => ∃ k : Nat, vi = [.int .i64 (k : Int)] ∧ L = K.blk bm 94 (K.mI (bz B f t m i k)) :: T ∧ k ≤ 9) (fun vi => 9 - (intOf (K.nth vi 0)).toNat) ?_ ?_
  ·exact ⟨0, rfl, rfl, Nat.zero_le _⟩
  intro vi vr L hJ
  obtain ⟨k, rfl, rfl, hkn⟩ := hJ
  refine zY ?_
  refine sr (qp (K.lss rfl rfl) ?_)
  refine sn (K.seq ?_)
  refine K.cond rfl (fun ht34 => ?_) (fun ht34 => ?_)
  ·try replace ht34 := Kq.oT ht34
   have hk9 : k < 9 := by omega
   have hc1 := bc_1 (B := B) (f := f) (t := t) (m := m) hi9 hk9
   have hc2 := bc_2 (B := B) (t := t) (k := k) hi9 hf ht29
   have hc3 := bc_3 (B := B) (i := i) ht hk9 ht29
   have hbi := hb i f hi9 hf
   have hbk := hb t k ht hk9
   have hset : K.over (K.mI (bz B f t m i k)) (0 + i * 9 + k) (K.cl (.int .i64 (min (bat B i k) (bat B i f + m + bat B t k)))) = K.mI (bz B f t m i (k + 1)) := mx_set bz_len hi9 hk9 (bz_set hi9 hk9)
   have hfit : 0 + i * 9 + k + 1 ≤ (K.mI (bz B f t m i k)).length := by rw [mx_len bz_len]; omega
   refine K.skip (K.dA (K.seq (K.block (sr (qm ?_)))))
   refine qa ?_
   refine sn ?_
   refine K.nB [31] uA ?_
   refine dp 0 rfl (K.move) ?_
   refine dp 1 rfl (K.move) ?_
   refine dp 2 rfl (K.move) ?_
   refine dp 3 rfl (K.move) ?_
   refine dp 4 rfl (K.move) ?_
   refine dp 5 rfl (K.move) ?_
   refine dp 6 rfl (K.nilCheck rfl) ?_
   refine dp 7 rfl (K.Pure.eq (K.iB ar_94 rfl rfl (by omega) (by omega)) (show _ = Value.pointer (some ⟨bm, 0 + i * 9, none⟩) from by rw [Int.toNat_natCast])) ?_
   refine dp 8 rfl (K.Pure.eq (K.iB ar_92 rfl rfl (by omega) (by omega)) (show _ = Value.pointer (some ⟨bm, 0 + i * 9 + k, none⟩) from by rw [Int.toNat_natCast, Nat.mul_one])) ?_
   refine dm 9 rfl (K.mB one_3 rfl (K.PtrL.own' ((K.m0))) hc1) ?_
   refine dp 10 rfl (K.move) ?_
   refine dp 11 rfl (K.move) ?_
   refine dp 12 rfl (K.move) ?_
   refine dp 13 rfl (K.nilCheck rfl) ?_
   refine dp 14 rfl (K.Pure.eq (K.iB ar_94 rfl rfl (by omega) (by omega)) (show _ = Value.pointer (some ⟨bm, 0 + i * 9, none⟩) from by rw [Int.toNat_natCast])) ?_
   refine dp 15 rfl (K.Pure.eq (K.iB ar_92 rfl rfl (by omega) (by omega)) (show _ = Value.pointer (some ⟨bm, 0 + i * 9 + f, none⟩) from by rw [Int.toNat_natCast, Nat.mul_one])) ?_
   refine dm 16 rfl (K.mB one_3 rfl (K.PtrL.own' ((K.m0))) hc2) ?_
   refine dp 17 rfl (K.move) ?_
   refine dp 18 rfl (K.tA rfl rfl (by omega)) ?_
   refine dp 19 rfl (K.move) ?_
   refine dp 20 rfl (K.move) ?_
   refine dp 21 rfl (K.move) ?_
   refine dp 22 rfl (K.nilCheck rfl) ?_
   refine dp 23 rfl (K.Pure.eq (K.iB ar_94 rfl rfl (by omega) (by omega)) (show _ = Value.pointer (some ⟨bm, 0 + t * 9, none⟩) from by rw [Int.toNat_natCast])) ?_
   refine dp 24 rfl (K.Pure.eq (K.iB ar_92 rfl rfl (by omega) (by omega)) (show _ = Value.pointer (some ⟨bm, 0 + t * 9 + k, none⟩) from by rw [Int.toNat_natCast, Nat.mul_one])) ?_
   refine dm 25 rfl (K.mB one_3 rfl (K.PtrL.own' ((K.m0))) hc3) ?_
   refine dp 26 rfl (K.tA rfl rfl (by omega)) ?_
   refine dp 27 rfl (K.min_int rfl rfl) ?_
   refine dp 28 rfl (K.nilCheck rfl) ?_
   refine dp 29 rfl (K.Pure.eq (K.iB ar_94 rfl rfl (by omega) (by omega)) (show _ = Value.pointer (some ⟨bm, 0 + i * 9, none⟩) from by rw [Int.toNat_natCast])) ?_
   refine dp 30 rfl (K.Pure.eq (K.iB ar_92 rfl rfl (by omega) (by omega)) (show _ = Value.pointer (some ⟨bm, 0 + i * 9 + k, none⟩) from by rw [Int.toNat_natCast, Nat.mul_one])) ?_
   refine K.eC 31 rfl (K.store_ix (cs := K.mI (bz B f t m i k)) sz_3 rfl rfl hfit rfl (K.rpe K.rp0 (congrArg (K.blk bm 94) hset.symm))) rfl (by kernel_rfl) rfl ?_
   intro _ _
   refine zN ?_
   refine zN ?_
   refine dd (K.kA (K.dA (K.gA (qp (K.tA rfl rfl (by omega)) ?_))))
   refine qm ?_
   refine K.lA ?_
   exact K.rA (L'' := K.blk bm 94 (K.mI (bz B f t m i (k + 1))) :: T) [.int .i64 ((k : Int) + 1)] ⟨k + 1, rfl, rfl, by omega⟩ (by simp [K.nth, intOf]; omega) Kq.s0 (by kernel_rfl)
  try replace ht34 := Kq.oF ht34
  obtain rfl : k = 9 := by omega
  rw [bz_row]
  refine K.exit (K.pA (K.pA (K.zA (K.kA (K.dA (K.gA (qp (K.tA rfl rfl (by omega)) ?_)))))))
  refine qm ?_
  refine K.lA ?_
  exact K.rA (L'' := K.blk bm 94 (K.mI (bz B f t m (i + 1) 0)) :: T) [.int .i64 ((i : Int) + 1)] ⟨i + 1, rfl, rfl, by omega⟩ (by simp [K.nth, intOf]; omega) Kq.s0 (by kernel_rfl)
 try replace ht31 := Kq.oF ht31
 obtain rfl : i = 9 := by omega
 rw [bz_all]
 refine K.exit (K.pA (K.pA (K.zA (K.dA (sr (qa ?_))))))
 refine sn (K.ret (et ?_))
 exact K.retsU () trivial (by rw [b1_s (by omega) (by omega)]; rfl) (by rw [b1_s (by omega) (by omega)]; exact List.Sublist.refl _)

end Go.Proofs.YtnhhfkgldoeifaaGreatDoor.Sh
end
section
namespace Go.Proofs.YtnhhfkgldoeifaaGreatDoor.Sh
open Go.RowKit Go
open Go.K (setd setn ev nth over cl eI eP eT setM setF)
attribute [local irreducible] K.blk K.row
theorem bl167 (a b c : Int) : K.Bl Tryz.prog 167 [(0, .int .i64 a), (1, .int .i64 b), (2, .int .i64 c)] (.agg #[.int .i64 a, .int .i64 b, .int .i64 c]) := fun w => by kernel_rfl

set_option maxRecDepth 100000 in
set_option maxHeartbeats 1000000 in
theorem c126_1 {iv : Int} {pts : List ByteArray} {nts : List NtT} {A B : Option Addr} {c d : Nat} {i a b : Nat} {wd : Int} {p1 p2 p3 : Addr} (hn : i < nts.length) (hm : nts.length ≤ 12) (hk : (nts.getD i default).kd = 1) (ha : (nts.getD i default).a = (a : Int)) (hb : (nts.getD i default).b = (b : Int)) (hlh : (-9000 ≤ (nts.getD i default).hi ∧ (nts.getD i default).hi ≤ 9000) ∧ (-9000 ≤ (nts.getD i default).lo ∧ (nts.getD i default).lo ≤ 9000)) (hwd : 0 ≤ wd ∧ wd ≤ 50000) :
  R.IterC Tryz.prog 126 [] [.pointer (some p1), .pointer (some p2), .pointer (some p3)] (fun f w => R.Own1 f w p1 [.int .i64 iv, .slice A pts.length c, .slice B nts.length d] ∧ R.Own1 f w p2 [.int .i64 (i : Int)] ∧ R.Own1 f w p3 [.int .i64 wd] ∧ K.Rd w B 5 eO nts) (fun s : Nat × Nat × Int => Value.agg #[.int .i64 (s.1 : Int), .int .i64 (s.2.1 : Int), .int .i64 s.2.2]) [((8 : Nat), (a : Nat), ((nts.getD i default).hi + wd)), ((a : Nat), (8 : Nat), (wd - (nts.getD i default).lo))] := by
 intro lr B0 J Jx f w hB hJa hJxa hf hR hJ0 hpre
 obtain ⟨h1, h2, h3, hN⟩ := hpre
 refine R.enter (args := [.func (.yield lr) #[] #[], .pointer (some p1), .pointer (some p2), .pointer (some p3)]) Tryz.func126 rfl (m := 55) rfl ?_
 refine zR ?_
 refine R.seq ?_
 refine R.gA rfl ?_
 refine qp (K.fieldAddr fo_117_0 rfl) ?_
 refine qp (K.fieldAddr fo_25_2 rfl) ?_
 refine ql (K.load1 one_23 rfl ((K.PtrL.fld (K.PtrL.fld h1.ptr (k := 0)) (k := 2)).any)) ?_
 refine ql (K.load1 one_3 rfl (h2.ptr.any)) ?_
 refine K.vB (M := []) _ hN.sl sl_23 rfl rfl rfl (by omega) rfl ?_
 intro p12 hp12
 refine zN ?_
 refine ql (K.uB ag_58 rfl (hp12.any) rfl) ?_
 refine qn (K.alloc zr_58) fun b5 => ?_
 refine qt (K.vA sz_58 rfl rfl rfl rfl (K.rp0)) ?_
 refine K.lA ?_
 refine R.out ?_
 refine R.dA ?_
 refine R.seq ?_
 rw [hk, ha, hb]
 refine R.nB [] uA rfl ?_
 refine dp 0 rfl (K.aA fo_58_3 rfl) ?_
 refine dm 1 rfl (K.jA kC rfl (K.m0) rfl) ?_
 refine dp 2 rfl (K.aA fo_58_2 rfl) ?_
 refine dm 3 rfl (K.fA one_3 rfl (K.m0) rfl) ?_
 refine K.d_new 4 rfl (K.alloc zr_46) (fun _ h => h) (by kernel_rfl) rfl ?_
 intro b6
 refine zN ?_
 refine K.sC 5 rfl (K.vA sz_46 rfl rfl rfl rfl (K.rp0)) (fun _ => fun _ h => K.tl h) (by kernel_rfl) rfl ?_
 intro _ _
 refine zN ?_
 refine dp 6 rfl (K.assign) ?_
 refine dd ?_
 refine R.out ?_
 refine R.dA ?_
 refine R.seq ?_
 refine R.seq ?_
 refine R.gA rfl ?_
 refine ql (K.jA ag_58 rfl (K.m1) rfl) ?_
 refine qc (K.nA cal_103 (fun F w hF hw => c103_1 (x := ⟨1, (a : Int), (b : Int), (nts.getD i default).lo, (nts.getD i default).hi⟩) rfl w)) ?_
 refine K.lA ?_
 refine R.out ?_
 refine R.dA ?_
 refine R.block ?_
 refine R.seq ?_
 refine R.gA rfl ?_
 refine K.mA (K.assertY con_183 rfl) rfl ?_
 refine zN ?_
 iterate 2 refine qx ?_
 refine K.lA ?_
 refine R.out ?_
 refine R.dA ?_
 refine R.yA rfl ?_
 refine R.gA rfl ?_
 refine qa ?_
 refine K.lA ?_
 refine R.out ?_
 refine R.kA ?_
 refine R.dA ?_
 refine R.seq ?_
 refine R.lregion ?_
 refine R.jB (K.move) rfl rfl ?_
 refine zn ?_
 refine R.jB (K.move) rfl rfl ?_
 refine zn ?_
 refine R.jB (K.aA fo_58_1 rfl) rfl rfl ?_
 refine zn ?_
 refine R.lseq_sil (K.fA one_3 rfl (K.m1) rfl) rfl rfl ?_
 refine zN ?_
 refine R.jB (K.aA fo_46_1 rfl) rfl rfl ?_
 refine zn ?_
 refine R.lseq_sil (K.fA one_3 rfl (K.m0) rfl) rfl rfl ?_
 refine zN ?_
 refine R.lseq_sil (K.load1 one_3 rfl (h3.ptr.any)) rfl rfl ?_
 refine zN ?_
 refine R.jB (K.tA rfl rfl (by omega)) rfl rfl ?_
 refine zn ?_
 refine R.jB (K.build (bl167 _ _ _)) rfl rfl ?_
 refine zN ?_
 refine R.lseq_yield2 rfl rfl rfl (fun w1 hw1 => R.yield_step2 hR (k := 0) rfl (hJa.below hJ0 hf hB hw1.1)) ?_
 intro w1 hw1 bb w2 hst
 have hf1 : ∀ i, f i → i < w1.heap.size := fun i hi => Nat.lt_of_lt_of_le (hf i hi) hw1.1.size
 have q5 := R.Own1.blk (f := f) hw1 (b := b5) (K.m1) hf
 have q6 := R.Own1.blk (f := f) hw1 (b := b6) (K.m0) hf
 have hB5 : B0 ≤ b5 := Nat.le_trans hB (K.blk_own hw1 (K.m1))
 have g3 := h3.keep (R.Keep.below (f := f) hw1.1)
 refine zN ?_
 refine R.lseq_nil ?_
 refine R.dA ?_
 refine R.cond rfl (fun ht48 => ?_) (fun ht48 => ?_)
 ·try replace ht48 := Kq.oT ht48
  have hbt : bb = true := by simpa using ht48
  subst hbt
  rcases hst with ⟨_, f2, hJ2, hk2, _, hf2⟩ | ⟨h, _⟩
  case inr => cases h
  have hB2 : B0 ≤ w2.heap.size := Nat.le_trans hB5 (Nat.le_of_lt (q5.keep hk2).1)
  have q5 := q5.keep hk2
  have q6 := q6.keep hk2
  have h3 := g3.keep hk2
  refine R.lregion ?_
  refine R.jB (K.move) rfl rfl ?_
  refine zn ?_
  refine R.jB (K.aA fo_58_1 rfl) rfl rfl ?_
  refine zn ?_
  refine R.lseq_sil (K.mB one_3 rfl (q5.ptr.any) rfl) rfl rfl ?_
  refine zN ?_
  refine R.jB (K.move) rfl rfl ?_
  refine zn ?_
  refine R.lseq_sil (K.load1 one_3 rfl (h3.ptr.any)) rfl rfl ?_
  refine zN ?_
  refine R.jB (K.aA fo_46_0 rfl) rfl rfl ?_
  refine zn ?_
  refine R.lseq_sil (K.mB one_3 rfl (q6.ptr.any) rfl) rfl rfl ?_
  refine zN ?_
  refine R.jB (K.oB rfl rfl (by omega)) rfl rfl ?_
  refine zn ?_
  refine R.jB (K.build (bl167 _ _ _)) rfl rfl ?_
  refine zN ?_
  refine R.lseq_yield2 rfl rfl rfl (fun w1 hw1 => R.yield_step2 hR (k := 1) rfl (hJa.below hJ2 hf2 hB2 hw1.1)) ?_
  intro w1 hw1 bb2 w4 hst2
  have s5 := q5.keep (R.Keep.below (f := f2) hw1.1)
  refine zN ?_
  refine R.lseq_nil ?_
  refine R.end_normal (fun w _ => K.rB rfl w) ?_
  intro w3 hw3
  refine ⟨⟨_, rfl⟩, ?_⟩
  rcases hst2 with ⟨_, f3, hJ3, hk3, _, hf3⟩ | ⟨_, k3, f3, hk3, hJ3, hkp, _, hf3⟩
  ·exact .inl ⟨f3, hJa.below hJ3 hf3 (Nat.le_trans hB5 (Nat.le_of_lt (s5.keep hk3).1)) hw3.1⟩
  ·exact .inr ⟨k3, f3, hk3, hJxa.below hJ3 hf3 (Nat.le_trans hB5 (Nat.le_of_lt (s5.keep hkp).1)) hw3.1⟩
 try replace ht48 := Kq.oF ht48
 refine R.skip ?_
 refine R.end_normal (fun w _ => K.rB rfl w) ?_
 intro w3 hw3
 refine ⟨⟨_, rfl⟩, .inr ?_⟩
 have hbf : bb = false := by simpa using ht48
 subst hbf
 rcases hst with ⟨h, _⟩ | ⟨_, k2, f2, hk2, hJ2, hkp, _, hf2⟩
 ·cases h
 exact ⟨k2, f2, hk2, hJxa.below hJ2 hf2 (Nat.le_trans hB5 (Nat.le_of_lt (q5.keep hkp).1)) hw3.1⟩

set_option maxRecDepth 100000 in
set_option maxHeartbeats 1000000 in
theorem c126_2 {iv : Int} {pts : List ByteArray} {nts : List NtT} {A B : Option Addr} {c d : Nat} {i a b : Nat} {wd : Int} {p1 p2 p3 : Addr} (hn : i < nts.length) (hm : nts.length ≤ 12) (hk : (nts.getD i default).kd = 2) (ha : (nts.getD i default).a = (a : Int)) (hb : (nts.getD i default).b = (b : Int)) (hlh : (-9000 ≤ (nts.getD i default).hi * iv ∧ (nts.getD i default).hi * iv ≤ 9000) ∧ (-9000 ≤ (nts.getD i default).lo * iv ∧ (nts.getD i default).lo * iv ≤ 9000)) (hwd : 0 ≤ wd ∧ wd ≤ 50000) :
  R.IterC Tryz.prog 126 [] [.pointer (some p1), .pointer (some p2), .pointer (some p3)] (fun f w => R.Own1 f w p1 [.int .i64 iv, .slice A pts.length c, .slice B nts.length d] ∧ R.Own1 f w p2 [.int .i64 (i : Int)] ∧ R.Own1 f w p3 [.int .i64 wd] ∧ K.Rd w B 5 eO nts) (fun s : Nat × Nat × Int => Value.agg #[.int .i64 (s.1 : Int), .int .i64 (s.2.1 : Int), .int .i64 s.2.2]) [((8 : Nat), (a : Nat), ((nts.getD i default).hi * iv + wd)), ((a : Nat), (8 : Nat), (wd - (nts.getD i default).lo * iv))] := by
 intro lr B0 J Jx f w hB hJa hJxa hf hR hJ0 hpre
 obtain ⟨h1, h2, h3, hN⟩ := hpre
 refine R.enter (args := [.func (.yield lr) #[] #[], .pointer (some p1), .pointer (some p2), .pointer (some p3)]) Tryz.func126 rfl (m := 55) rfl ?_
 refine zR ?_
 refine R.seq ?_
 refine R.gA rfl ?_
 refine qp (K.fieldAddr fo_117_0 rfl) ?_
 refine qp (K.fieldAddr fo_25_2 rfl) ?_
 refine ql (K.load1 one_23 rfl ((K.PtrL.fld (K.PtrL.fld h1.ptr (k := 0)) (k := 2)).any)) ?_
 refine ql (K.load1 one_3 rfl (h2.ptr.any)) ?_
 refine K.vB (M := []) _ hN.sl sl_23 rfl rfl rfl (by omega) rfl ?_
 intro p12 hp12
 refine zN ?_
 refine ql (K.uB ag_58 rfl (hp12.any) rfl) ?_
 refine qn (K.alloc zr_58) fun b5 => ?_
 refine qt (K.vA sz_58 rfl rfl rfl rfl (K.rp0)) ?_
 refine K.lA ?_
 refine R.out ?_
 refine R.dA ?_
 refine R.seq ?_
 rw [hk, ha, hb]
 refine R.nB [] uA rfl ?_
 refine dp 0 rfl (K.aA fo_58_3 rfl) ?_
 refine dm 1 rfl (K.jA kC rfl (K.m0) rfl) ?_
 refine dp 2 rfl (K.aA fo_58_2 rfl) ?_
 refine dm 3 rfl (K.fA one_3 rfl (K.m0) rfl) ?_
 refine K.d_new 4 rfl (K.alloc zr_46) (fun _ h => h) (by kernel_rfl) rfl ?_
 intro b6
 refine zN ?_
 refine K.sC 5 rfl (K.vA sz_46 rfl rfl rfl rfl (K.rp0)) (fun _ => fun _ h => K.tl h) (by kernel_rfl) rfl ?_
 intro _ _
 refine zN ?_
 refine dp 6 rfl (K.assign) ?_
 refine dd ?_
 refine R.out ?_
 refine R.dA ?_
 refine R.seq ?_
 refine R.seq ?_
 refine R.gA rfl ?_
 refine ql (K.jA ag_58 rfl (K.m1) rfl) ?_
 refine qc (K.nA cal_103 (fun F w hF hw => c103_2 (x := ⟨2, (a : Int), (b : Int), (nts.getD i default).lo, (nts.getD i default).hi⟩) rfl w)) ?_
 refine K.lA ?_
 refine R.out ?_
 refine R.dA ?_
 refine R.block ?_
 refine R.seq ?_
 refine R.gA rfl ?_
 refine K.mA (K.assertN con_183 rfl rfl zr_183) rfl ?_
 refine zN ?_
 iterate 2 refine qx ?_
 refine K.lA ?_
 refine R.out ?_
 refine R.dA ?_
 refine R.oA rfl ?_
 refine R.seq ?_
 refine R.gA rfl ?_
 refine K.mA (K.assertY con_184 rfl) rfl ?_
 refine zN ?_
 iterate 2 refine qx ?_
 refine K.lA ?_
 refine R.out ?_
 refine R.dA ?_
 refine R.yA rfl ?_
 refine R.gA rfl ?_
 refine qp (K.aA fo_46_0 rfl) ?_
 refine ql (K.fA one_3 rfl (K.m0) rfl) ?_
 refine qp (K.fieldAddr fo_117_0 rfl) ?_
 refine qp (K.fieldAddr fo_25_0 rfl) ?_
 refine ql (K.load1 one_3 rfl ((K.PtrL.fld (K.PtrL.fld h1.ptr (k := 0)) (k := 0)).any)) ?_
 refine qp (K.mul_i64 rfl rfl (by omega)) ?_
 refine qp (K.aA fo_46_1 rfl) ?_
 refine ql (K.fA one_3 rfl (K.m0) rfl) ?_
 refine qp (K.fieldAddr fo_117_0 rfl) ?_
 refine qp (K.fieldAddr fo_25_0 rfl) ?_
 refine ql (K.load1 one_3 rfl ((K.PtrL.fld (K.PtrL.fld h1.ptr (k := 0)) (k := 0)).any)) ?_
 refine qp (K.mul_i64 rfl rfl (by omega)) ?_
 refine K.mA (K.build (bl46 _ _)) rfl ?_
 refine zN ?_
 refine qt (K.vA sz_46 rfl rfl rfl rfl (K.rp0)) ?_
 refine qa ?_
 refine K.lA ?_
 refine R.out ?_
 refine R.kA ?_
 refine R.dA ?_
 refine R.seq ?_
 refine R.lregion ?_
 refine R.jB (K.move) rfl rfl ?_
 refine zn ?_
 refine R.jB (K.move) rfl rfl ?_
 refine zn ?_
 refine R.jB (K.aA fo_58_1 rfl) rfl rfl ?_
 refine zn ?_
 refine R.lseq_sil (K.fA one_3 rfl (K.m1) rfl) rfl rfl ?_
 refine zN ?_
 refine R.jB (K.aA fo_46_1 rfl) rfl rfl ?_
 refine zn ?_
 refine R.lseq_sil (K.fA one_3 rfl (K.m0) rfl) rfl rfl ?_
 refine zN ?_
 refine R.lseq_sil (K.load1 one_3 rfl (h3.ptr.any)) rfl rfl ?_
 refine zN ?_
 refine R.jB (K.tA rfl rfl (by omega)) rfl rfl ?_
 refine zn ?_
 refine R.jB (K.build (bl167 _ _ _)) rfl rfl ?_
 refine zN ?_
 refine R.lseq_yield2 rfl rfl rfl (fun w1 hw1 => R.yield_step2 hR (k := 0) rfl (hJa.below hJ0 hf hB hw1.1)) ?_
 intro w1 hw1 bb w2 hst
 have hf1 : ∀ i, f i → i < w1.heap.size := fun i hi => Nat.lt_of_lt_of_le (hf i hi) hw1.1.size
 have q5 := R.Own1.blk (f := f) hw1 (b := b5) (K.m1) hf
 have q6 := R.Own1.blk (f := f) hw1 (b := b6) (K.m0) hf
 have hB5 : B0 ≤ b5 := Nat.le_trans hB (K.blk_own hw1 (K.m1))
 have g3 := h3.keep (R.Keep.below (f := f) hw1.1)
 refine zN ?_
 refine R.lseq_nil ?_
 refine R.dA ?_
 refine R.cond rfl (fun ht48 => ?_) (fun ht48 => ?_)
 ·try replace ht48 := Kq.oT ht48
  have hbt : bb = true := by simpa using ht48
  subst hbt
  rcases hst with ⟨_, f2, hJ2, hk2, _, hf2⟩ | ⟨h, _⟩
  case inr => cases h
  have hB2 : B0 ≤ w2.heap.size := Nat.le_trans hB5 (Nat.le_of_lt (q5.keep hk2).1)
  have q5 := q5.keep hk2
  have q6 := q6.keep hk2
  have h3 := g3.keep hk2
  refine R.lregion ?_
  refine R.jB (K.move) rfl rfl ?_
  refine zn ?_
  refine R.jB (K.aA fo_58_1 rfl) rfl rfl ?_
  refine zn ?_
  refine R.lseq_sil (K.mB one_3 rfl (q5.ptr.any) rfl) rfl rfl ?_
  refine zN ?_
  refine R.jB (K.move) rfl rfl ?_
  refine zn ?_
  refine R.lseq_sil (K.load1 one_3 rfl (h3.ptr.any)) rfl rfl ?_
  refine zN ?_
  refine R.jB (K.aA fo_46_0 rfl) rfl rfl ?_
  refine zn ?_
  refine R.lseq_sil (K.mB one_3 rfl (q6.ptr.any) rfl) rfl rfl ?_
  refine zN ?_
  refine R.jB (K.oB rfl rfl (by omega)) rfl rfl ?_
  refine zn ?_
  refine R.jB (K.build (bl167 _ _ _)) rfl rfl ?_
  refine zN ?_
  refine R.lseq_yield2 rfl rfl rfl (fun w1 hw1 => R.yield_step2 hR (k := 1) rfl (hJa.below hJ2 hf2 hB2 hw1.1)) ?_
  intro w1 hw1 bb2 w4 hst2
  have s5 := q5.keep (R.Keep.below (f := f2) hw1.1)
  refine zN ?_
  refine R.lseq_nil ?_
  refine R.end_normal (fun w _ => K.rB rfl w) ?_
  intro w3 hw3
  refine ⟨⟨_, rfl⟩, ?_⟩
  rcases hst2 with ⟨_, f3, hJ3, hk3, _, hf3⟩ | ⟨_, k3, f3, hk3, hJ3, hkp, _, hf3⟩
  ·exact .inl ⟨f3, hJa.below hJ3 hf3 (Nat.le_trans hB5 (Nat.le_of_lt (s5.keep hk3).1)) hw3.1⟩
  ·exact .inr ⟨k3, f3, hk3, hJxa.below hJ3 hf3 (Nat.le_trans hB5 (Nat.le_of_lt (s5.keep hkp).1)) hw3.1⟩
 try replace ht48 := Kq.oF ht48
 refine R.skip ?_
 refine R.end_normal (fun w _ => K.rB rfl w) ?_
 intro w3 hw3
 refine ⟨⟨_, rfl⟩, .inr ?_⟩
 have hbf : bb = false := by simpa using ht48
 subst hbf
 rcases hst with ⟨h, _⟩ | ⟨_, k2, f2, hk2, hJ2, hkp, _, hf2⟩
 ·cases h
 exact ⟨k2, f2, hk2, hJxa.below hJ2 hf2 (Nat.le_trans hB5 (Nat.le_of_lt (q5.keep hkp).1)) hw3.1⟩

set_option maxRecDepth 100000 in
set_option maxHeartbeats 1000000 in
theorem c126_3 {iv : Int} {pts : List ByteArray} {nts : List NtT} {A B : Option Addr} {c d : Nat} {i a b : Nat} {wd : Int} {p1 p2 p3 : Addr} (hn : i < nts.length) (hm : nts.length ≤ 12) (hk : (nts.getD i default).kd = 3) (ha : (nts.getD i default).a = (a : Int)) (hb : (nts.getD i default).b = (b : Int)) (hlh : (-9000 ≤ (nts.getD i default).hi ∧ (nts.getD i default).hi ≤ 9000) ∧ (-9000 ≤ (nts.getD i default).lo ∧ (nts.getD i default).lo ≤ 9000)) (hwd : 0 ≤ wd ∧ wd ≤ 50000) :
  R.IterC Tryz.prog 126 [] [.pointer (some p1), .pointer (some p2), .pointer (some p3)] (fun f w => R.Own1 f w p1 [.int .i64 iv, .slice A pts.length c, .slice B nts.length d] ∧ R.Own1 f w p2 [.int .i64 (i : Int)] ∧ R.Own1 f w p3 [.int .i64 wd] ∧ K.Rd w B 5 eO nts) (fun s : Nat × Nat × Int => Value.agg #[.int .i64 (s.1 : Int), .int .i64 (s.2.1 : Int), .int .i64 s.2.2]) [((b : Nat), (a : Nat), ((nts.getD i default).hi + wd)), ((a : Nat), (b : Nat), (wd - (nts.getD i default).lo))] := by
 intro lr B0 J Jx f w hB hJa hJxa hf hR hJ0 hpre
 obtain ⟨h1, h2, h3, hN⟩ := hpre
 refine R.enter (args := [.func (.yield lr) #[] #[], .pointer (some p1), .pointer (some p2), .pointer (some p3)]) Tryz.func126 rfl (m := 55) rfl ?_
 refine zR ?_
 refine R.seq ?_
 refine R.gA rfl ?_
 refine qp (K.fieldAddr fo_117_0 rfl) ?_
 refine qp (K.fieldAddr fo_25_2 rfl) ?_
 refine ql (K.load1 one_23 rfl ((K.PtrL.fld (K.PtrL.fld h1.ptr (k := 0)) (k := 2)).any)) ?_
 refine ql (K.load1 one_3 rfl (h2.ptr.any)) ?_
 refine K.vB (M := []) _ hN.sl sl_23 rfl rfl rfl (by omega) rfl ?_
 intro p12 hp12
 refine zN ?_
 refine ql (K.uB ag_58 rfl (hp12.any) rfl) ?_
 refine qn (K.alloc zr_58) fun b5 => ?_
 refine qt (K.vA sz_58 rfl rfl rfl rfl (K.rp0)) ?_
 refine K.lA ?_
 refine R.out ?_
 refine R.dA ?_
 refine R.seq ?_
 rw [hk, ha, hb]
 refine R.nB [] uA rfl ?_
 refine dp 0 rfl (K.aA fo_58_3 rfl) ?_
 refine dm 1 rfl (K.jA kC rfl (K.m0) rfl) ?_
 refine dp 2 rfl (K.aA fo_58_2 rfl) ?_
 refine dm 3 rfl (K.fA one_3 rfl (K.m0) rfl) ?_
 refine K.d_new 4 rfl (K.alloc zr_46) (fun _ h => h) (by kernel_rfl) rfl ?_
 intro b6
 refine zN ?_
 refine K.sC 5 rfl (K.vA sz_46 rfl rfl rfl rfl (K.rp0)) (fun _ => fun _ h => K.tl h) (by kernel_rfl) rfl ?_
 intro _ _
 refine zN ?_
 refine dp 6 rfl (K.assign) ?_
 refine dd ?_
 refine R.out ?_
 refine R.dA ?_
 refine R.seq ?_
 refine R.seq ?_
 refine R.gA rfl ?_
 refine ql (K.jA ag_58 rfl (K.m1) rfl) ?_
 refine qc (K.nA cal_103 (fun F w hF hw => c103_3 (x := ⟨3, (a : Int), (b : Int), (nts.getD i default).lo, (nts.getD i default).hi⟩) rfl w)) ?_
 refine K.lA ?_
 refine R.out ?_
 refine R.dA ?_
 refine R.block ?_
 refine R.seq ?_
 refine R.gA rfl ?_
 refine K.mA (K.assertN con_183 rfl rfl zr_183) rfl ?_
 refine zN ?_
 iterate 2 refine qx ?_
 refine K.lA ?_
 refine R.out ?_
 refine R.dA ?_
 refine R.oA rfl ?_
 refine R.seq ?_
 refine R.gA rfl ?_
 refine K.mA (K.assertN con_184 rfl rfl zr_184) rfl ?_
 refine zN ?_
 iterate 2 refine qx ?_
 refine K.lA ?_
 refine R.out ?_
 refine R.dA ?_
 refine R.oA rfl ?_
 refine R.skip ?_
 refine R.kA ?_
 refine R.dA ?_
 refine R.seq ?_
 refine R.lregion ?_
 refine R.jB (K.move) rfl rfl ?_
 refine zn ?_
 refine R.jB (K.move) rfl rfl ?_
 refine zn ?_
 refine R.jB (K.aA fo_58_1 rfl) rfl rfl ?_
 refine zn ?_
 refine R.lseq_sil (K.fA one_3 rfl (K.m1) rfl) rfl rfl ?_
 refine zN ?_
 refine R.jB (K.aA fo_46_1 rfl) rfl rfl ?_
 refine zn ?_
 refine R.lseq_sil (K.fA one_3 rfl (K.m0) rfl) rfl rfl ?_
 refine zN ?_
 refine R.lseq_sil (K.load1 one_3 rfl (h3.ptr.any)) rfl rfl ?_
 refine zN ?_
 refine R.jB (K.tA rfl rfl (by omega)) rfl rfl ?_
 refine zn ?_
 refine R.jB (K.build (bl167 _ _ _)) rfl rfl ?_
 refine zN ?_
 refine R.lseq_yield2 rfl rfl rfl (fun w1 hw1 => R.yield_step2 hR (k := 0) rfl (hJa.below hJ0 hf hB hw1.1)) ?_
 intro w1 hw1 bb w2 hst
 have hf1 : ∀ i, f i → i < w1.heap.size := fun i hi => Nat.lt_of_lt_of_le (hf i hi) hw1.1.size
 have q5 := R.Own1.blk (f := f) hw1 (b := b5) (K.m1) hf
 have q6 := R.Own1.blk (f := f) hw1 (b := b6) (K.m0) hf
 have hB5 : B0 ≤ b5 := Nat.le_trans hB (K.blk_own hw1 (K.m1))
 have g3 := h3.keep (R.Keep.below (f := f) hw1.1)
 refine zN ?_
 refine R.lseq_nil ?_
 refine R.dA ?_
 refine R.cond rfl (fun ht48 => ?_) (fun ht48 => ?_)
 ·try replace ht48 := Kq.oT ht48
  have hbt : bb = true := by simpa using ht48
  subst hbt
  rcases hst with ⟨_, f2, hJ2, hk2, _, hf2⟩ | ⟨h, _⟩
  case inr => cases h
  have hB2 : B0 ≤ w2.heap.size := Nat.le_trans hB5 (Nat.le_of_lt (q5.keep hk2).1)
  have q5 := q5.keep hk2
  have q6 := q6.keep hk2
  have h3 := g3.keep hk2
  refine R.lregion ?_
  refine R.jB (K.move) rfl rfl ?_
  refine zn ?_
  refine R.jB (K.aA fo_58_1 rfl) rfl rfl ?_
  refine zn ?_
  refine R.lseq_sil (K.mB one_3 rfl (q5.ptr.any) rfl) rfl rfl ?_
  refine zN ?_
  refine R.jB (K.move) rfl rfl ?_
  refine zn ?_
  refine R.lseq_sil (K.load1 one_3 rfl (h3.ptr.any)) rfl rfl ?_
  refine zN ?_
  refine R.jB (K.aA fo_46_0 rfl) rfl rfl ?_
  refine zn ?_
  refine R.lseq_sil (K.mB one_3 rfl (q6.ptr.any) rfl) rfl rfl ?_
  refine zN ?_
  refine R.jB (K.oB rfl rfl (by omega)) rfl rfl ?_
  refine zn ?_
  refine R.jB (K.build (bl167 _ _ _)) rfl rfl ?_
  refine zN ?_
  refine R.lseq_yield2 rfl rfl rfl (fun w1 hw1 => R.yield_step2 hR (k := 1) rfl (hJa.below hJ2 hf2 hB2 hw1.1)) ?_
  intro w1 hw1 bb2 w4 hst2
  have s5 := q5.keep (R.Keep.below (f := f2) hw1.1)
  refine zN ?_
  refine R.lseq_nil ?_
  refine R.end_normal (fun w _ => K.rB rfl w) ?_
  intro w3 hw3
  refine ⟨⟨_, rfl⟩, ?_⟩
  rcases hst2 with ⟨_, f3, hJ3, hk3, _, hf3⟩ | ⟨_, k3, f3, hk3, hJ3, hkp, _, hf3⟩
  ·exact .inl ⟨f3, hJa.below hJ3 hf3 (Nat.le_trans hB5 (Nat.le_of_lt (s5.keep hk3).1)) hw3.1⟩
  ·exact .inr ⟨k3, f3, hk3, hJxa.below hJ3 hf3 (Nat.le_trans hB5 (Nat.le_of_lt (s5.keep hkp).1)) hw3.1⟩
 try replace ht48 := Kq.oF ht48
 refine R.skip ?_
 refine R.end_normal (fun w _ => K.rB rfl w) ?_
 intro w3 hw3
 refine ⟨⟨_, rfl⟩, .inr ?_⟩
 have hbf : bb = false := by simpa using ht48
 subst hbf
 rcases hst with ⟨h, _⟩ | ⟨_, k2, f2, hk2, hJ2, hkp, _, hf2⟩
 ·cases h
 exact ⟨k2, f2, hk2, hJxa.below hJ2 hf2 (Nat.le_trans hB5 (Nat.le_of_lt (q5.keep hkp).1)) hw3.1⟩

set_option maxRecDepth 100000 in
set_option maxHeartbeats 1000000 in
theorem c126_4 {iv : Int} {pts : List ByteArray} {nts : List NtT} {A B : Option Addr} {c d : Nat} {i a b : Nat} {wd : Int} {p1 p2 p3 : Addr} (hn : i < nts.length) (hm : nts.length ≤ 12) (hk : (nts.getD i default).kd = 4) (ha : (nts.getD i default).a = (a : Int)) (hb : (nts.getD i default).b = (b : Int)) (hlh : (-9000 ≤ (nts.getD i default).hi ∧ (nts.getD i default).hi ≤ 9000) ∧ (-9000 ≤ (nts.getD i default).lo ∧ (nts.getD i default).lo ≤ 9000)) (hwd : 0 ≤ wd ∧ wd ≤ 50000) :
  R.IterC Tryz.prog 126 [] [.pointer (some p1), .pointer (some p2), .pointer (some p3)] (fun f w => R.Own1 f w p1 [.int .i64 iv, .slice A pts.length c, .slice B nts.length d] ∧ R.Own1 f w p2 [.int .i64 (i : Int)] ∧ R.Own1 f w p3 [.int .i64 wd] ∧ K.Rd w B 5 eO nts) (fun s : Nat × Nat × Int => Value.agg #[.int .i64 (s.1 : Int), .int .i64 (s.2.1 : Int), .int .i64 s.2.2]) [((b : Nat), (a : Nat), ((nts.getD i default).hi + wd)), ((a : Nat), (b : Nat), (wd - (nts.getD i default).lo))] := by
 intro lr B0 J Jx f w hB hJa hJxa hf hR hJ0 hpre
 obtain ⟨h1, h2, h3, hN⟩ := hpre
 refine R.enter (args := [.func (.yield lr) #[] #[], .pointer (some p1), .pointer (some p2), .pointer (some p3)]) Tryz.func126 rfl (m := 55) rfl ?_
 refine zR ?_
 refine R.seq ?_
 refine R.gA rfl ?_
 refine qp (K.fieldAddr fo_117_0 rfl) ?_
 refine qp (K.fieldAddr fo_25_2 rfl) ?_
 refine ql (K.load1 one_23 rfl ((K.PtrL.fld (K.PtrL.fld h1.ptr (k := 0)) (k := 2)).any)) ?_
 refine ql (K.load1 one_3 rfl (h2.ptr.any)) ?_
 refine K.vB (M := []) _ hN.sl sl_23 rfl rfl rfl (by omega) rfl ?_
 intro p12 hp12
 refine zN ?_
 refine ql (K.uB ag_58 rfl (hp12.any) rfl) ?_
 refine qn (K.alloc zr_58) fun b5 => ?_
 refine qt (K.vA sz_58 rfl rfl rfl rfl (K.rp0)) ?_
 refine K.lA ?_
 refine R.out ?_
 refine R.dA ?_
 refine R.seq ?_
 rw [hk, ha, hb]
 refine R.nB [] uA rfl ?_
 refine dp 0 rfl (K.aA fo_58_3 rfl) ?_
 refine dm 1 rfl (K.jA kC rfl (K.m0) rfl) ?_
 refine dp 2 rfl (K.aA fo_58_2 rfl) ?_
 refine dm 3 rfl (K.fA one_3 rfl (K.m0) rfl) ?_
 refine K.d_new 4 rfl (K.alloc zr_46) (fun _ h => h) (by kernel_rfl) rfl ?_
 intro b6
 refine zN ?_
 refine K.sC 5 rfl (K.vA sz_46 rfl rfl rfl rfl (K.rp0)) (fun _ => fun _ h => K.tl h) (by kernel_rfl) rfl ?_
 intro _ _
 refine zN ?_
 refine dp 6 rfl (K.assign) ?_
 refine dd ?_
 refine R.out ?_
 refine R.dA ?_
 refine R.seq ?_
 refine R.seq ?_
 refine R.gA rfl ?_
 refine ql (K.jA ag_58 rfl (K.m1) rfl) ?_
 refine qc (K.nA cal_103 (fun F w hF hw => c103_4 (x := ⟨4, (a : Int), (b : Int), (nts.getD i default).lo, (nts.getD i default).hi⟩) rfl w)) ?_
 refine K.lA ?_
 refine R.out ?_
 refine R.dA ?_
 refine R.block ?_
 refine R.seq ?_
 refine R.gA rfl ?_
 refine K.mA (K.assertN con_183 rfl rfl zr_183) rfl ?_
 refine zN ?_
 iterate 2 refine qx ?_
 refine K.lA ?_
 refine R.out ?_
 refine R.dA ?_
 refine R.oA rfl ?_
 refine R.seq ?_
 refine R.gA rfl ?_
 refine K.mA (K.assertN con_184 rfl rfl zr_184) rfl ?_
 refine zN ?_
 iterate 2 refine qx ?_
 refine K.lA ?_
 refine R.out ?_
 refine R.dA ?_
 refine R.oA rfl ?_
 refine R.skip ?_
 refine R.kA ?_
 refine R.dA ?_
 refine R.seq ?_
 refine R.lregion ?_
 refine R.jB (K.move) rfl rfl ?_
 refine zn ?_
 refine R.jB (K.move) rfl rfl ?_
 refine zn ?_
 refine R.jB (K.aA fo_58_1 rfl) rfl rfl ?_
 refine zn ?_
 refine R.lseq_sil (K.fA one_3 rfl (K.m1) rfl) rfl rfl ?_
 refine zN ?_
 refine R.jB (K.aA fo_46_1 rfl) rfl rfl ?_
 refine zn ?_
 refine R.lseq_sil (K.fA one_3 rfl (K.m0) rfl) rfl rfl ?_
 refine zN ?_
 refine R.lseq_sil (K.load1 one_3 rfl (h3.ptr.any)) rfl rfl ?_
 refine zN ?_
 refine R.jB (K.tA rfl rfl (by omega)) rfl rfl ?_
 refine zn ?_
 refine R.jB (K.build (bl167 _ _ _)) rfl rfl ?_
 refine zN ?_
 refine R.lseq_yield2 rfl rfl rfl (fun w1 hw1 => R.yield_step2 hR (k := 0) rfl (hJa.below hJ0 hf hB hw1.1)) ?_
 intro w1 hw1 bb w2 hst
 have hf1 : ∀ i, f i → i < w1.heap.size := fun i hi => Nat.lt_of_lt_of_le (hf i hi) hw1.1.size
 have q5 := R.Own1.blk (f := f) hw1 (b := b5) (K.m1) hf
 have q6 := R.Own1.blk (f := f) hw1 (b := b6) (K.m0) hf
 have hB5 : B0 ≤ b5 := Nat.le_trans hB (K.blk_own hw1 (K.m1))
 have g3 := h3.keep (R.Keep.below (f := f) hw1.1)
 refine zN ?_
 refine R.lseq_nil ?_
 refine R.dA ?_
 refine R.cond rfl (fun ht48 => ?_) (fun ht48 => ?_)
 ·try replace ht48 := Kq.oT ht48
  have hbt : bb = true := by simpa using ht48
  subst hbt
  rcases hst with ⟨_, f2, hJ2, hk2, _, hf2⟩ | ⟨h, _⟩
  case inr => cases h
  have hB2 : B0 ≤ w2.heap.size := Nat.le_trans hB5 (Nat.le_of_lt (q5.keep hk2).1)
  have q5 := q5.keep hk2
  have q6 := q6.keep hk2
  have h3 := g3.keep hk2
  refine R.lregion ?_
  refine R.jB (K.move) rfl rfl ?_
  refine zn ?_
  refine R.jB (K.aA fo_58_1 rfl) rfl rfl ?_
  refine zn ?_
  refine R.lseq_sil (K.mB one_3 rfl (q5.ptr.any) rfl) rfl rfl ?_
  refine zN ?_
  refine R.jB (K.move) rfl rfl ?_
  refine zn ?_
  refine R.lseq_sil (K.load1 one_3 rfl (h3.ptr.any)) rfl rfl ?_
  refine zN ?_
  refine R.jB (K.aA fo_46_0 rfl) rfl rfl ?_
  refine zn ?_
  refine R.lseq_sil (K.mB one_3 rfl (q6.ptr.any) rfl) rfl rfl ?_
  refine zN ?_
  refine R.jB (K.oB rfl rfl (by omega)) rfl rfl ?_
  refine zn ?_
  refine R.jB (K.build (bl167 _ _ _)) rfl rfl ?_
  refine zN ?_
  refine R.lseq_yield2 rfl rfl rfl (fun w1 hw1 => R.yield_step2 hR (k := 1) rfl (hJa.below hJ2 hf2 hB2 hw1.1)) ?_
  intro w1 hw1 bb2 w4 hst2
  have s5 := q5.keep (R.Keep.below (f := f2) hw1.1)
  refine zN ?_
  refine R.lseq_nil ?_
  refine R.end_normal (fun w _ => K.rB rfl w) ?_
  intro w3 hw3
  refine ⟨⟨_, rfl⟩, ?_⟩
  rcases hst2 with ⟨_, f3, hJ3, hk3, _, hf3⟩ | ⟨_, k3, f3, hk3, hJ3, hkp, _, hf3⟩
  ·exact .inl ⟨f3, hJa.below hJ3 hf3 (Nat.le_trans hB5 (Nat.le_of_lt (s5.keep hk3).1)) hw3.1⟩
  ·exact .inr ⟨k3, f3, hk3, hJxa.below hJ3 hf3 (Nat.le_trans hB5 (Nat.le_of_lt (s5.keep hkp).1)) hw3.1⟩
 try replace ht48 := Kq.oF ht48
 refine R.skip ?_
 refine R.end_normal (fun w _ => K.rB rfl w) ?_
 intro w3 hw3
 refine ⟨⟨_, rfl⟩, .inr ?_⟩
 have hbf : bb = false := by simpa using ht48
 subst hbf
 rcases hst with ⟨h, _⟩ | ⟨_, k2, f2, hk2, hJ2, hkp, _, hf2⟩
 ·cases h
 exact ⟨k2, f2, hk2, hJxa.below hJ2 hf2 (Nat.le_trans hB5 (Nat.le_of_lt (q5.keep hkp).1)) hw3.1⟩

end Go.Proofs.YtnhhfkgldoeifaaGreatDoor.Sh
end
section
namespace Go.Proofs.YtnhhfkgldoeifaaGreatDoor.Sh
open Go.RowKit Go
open Go.K (setd setn ev nth over cl eI eP eT setM setF)
attribute [local irreducible] K.blk K.row

theorem c126 {iv : Int} {pts : List ByteArray} {nts : List NtT} {A B : Option Addr} {c d : Nat} {i : Nat} {wd : Int} {p1 p2 p3 : Addr} (hn : i < nts.length) (g : GoodS iv pts nts) (hwd : 0 ≤ wd ∧ wd ≤ 50000) : R.IterC Tryz.prog 126 [] [.pointer (some p1), .pointer (some p2), .pointer (some p3)] (fun f w => R.Own1 f w p1 [.int .i64 iv, .slice A pts.length c, .slice B nts.length d] ∧ R.Own1 f w p2 [.int .i64 (i : Int)] ∧ R.Own1 f w p3 [.int .i64 wd] ∧ K.Rd w B 5 eO nts) (fun s : Nat × Nat × Int => Value.agg #[.int .i64 (s.1 : Int), .int .i64 (s.2.1 : Int), .int .i64 s.2.2]) [bnd1 iv (nts.getD i default) wd, bnd2 iv (nts.getD i default) wd] := by
 have hb := nt_b (g.t i hn)
 have ab := nt_ab hb
 have hk := hb.k
 by_cases h1 : (nts.getD i default).kd = 1
 ·have e1 : bnd1 iv (nts.getD i default) wd = (8, (nts.getD i default).a.toNat, (nts.getD i default).hi + wd) := by unfold bnd1; rw [if_pos h1]
  have e2 : bnd2 iv (nts.getD i default) wd = ((nts.getD i default).a.toNat, 8, wd - (nts.getD i default).lo) := by unfold bnd2; rw [if_pos h1]
  rw [e1, e2]
  exact c126_1 hn g.l (by omega) ab.1 ab.2 (by have := nt_lh hb g.i; omega) hwd
 ·by_cases h2 : (nts.getD i default).kd = 2
  ·have e1 : bnd1 iv (nts.getD i default) wd = (8, (nts.getD i default).a.toNat, (nts.getD i default).hi * iv + wd) := by unfold bnd1; rw [if_neg h1, if_pos h2]
   have e2 : bnd2 iv (nts.getD i default) wd = ((nts.getD i default).a.toNat, 8, wd - (nts.getD i default).lo * iv) := by unfold bnd2; rw [if_neg h1, if_pos h2]
   rw [e1, e2]
   exact c126_2 hn g.l (by omega) ab.1 ab.2 (by have := nt_mul hb g.i.1 h2; omega) hwd
  ·by_cases h3 : (nts.getD i default).kd = 3
   ·have e1 : bnd1 iv (nts.getD i default) wd = ((nts.getD i default).b.toNat, (nts.getD i default).a.toNat, (nts.getD i default).hi + wd) := by unfold bnd1; rw [if_neg h1, if_neg h2]
    have e2 : bnd2 iv (nts.getD i default) wd = ((nts.getD i default).a.toNat, (nts.getD i default).b.toNat, wd - (nts.getD i default).lo) := by unfold bnd2; rw [if_neg h1, if_neg h2]
    rw [e1, e2]
    exact c126_3 hn g.l (by omega) ab.1 ab.2 (by have := nt_lh hb g.i; omega) hwd
   ·have e1 : bnd1 iv (nts.getD i default) wd = ((nts.getD i default).b.toNat, (nts.getD i default).a.toNat, (nts.getD i default).hi + wd) := by unfold bnd1; rw [if_neg h1, if_neg h2]
    have e2 : bnd2 iv (nts.getD i default) wd = ((nts.getD i default).a.toNat, (nts.getD i default).b.toNat, wd - (nts.getD i default).lo) := by unfold bnd2; rw [if_neg h1, if_neg h2]
    rw [e1, e2]
    exact c126_4 hn g.l (by omega) ab.1 ab.2 (by have := nt_lh hb g.i; omega) hwd


set_option maxRecDepth 100000 in
theorem c98 {iv : Int} {pts : List ByteArray} {nts : List NtT} {A B : Option Addr} {c d : Nat} {i wd : Int} (w : World) :
  Calls Tryz.prog 98 [.agg #[.int .i64 iv, .slice A pts.length c, .slice B nts.length d], .int .i64 i, .int .i64 wd].toArray w (K.Ret (fun _ : Nat × Nat × Nat => True) (fun q => .func (.func 126) #[] #[.pointer (some ⟨q.1, 0, none⟩), .pointer (some ⟨q.2.1, 0, none⟩), .pointer (some ⟨q.2.2, 0, none⟩)]) (fun q => [K.blk q.2.2 3 [.int .i64 wd], K.blk q.2.1 3 [.int .i64 i], K.blk q.1 117 [.int .i64 iv, .slice A pts.length c, .slice B nts.length d]]) w) := by
 refine K.enter (args := [.agg #[.int .i64 iv, .slice A pts.length c, .slice B nts.length d], .int .i64 i, .int .i64 wd]) Tryz.func98 rfl (n := 5) rfl ?_
 refine zR ?_
 refine sr ?_
 refine qn (K.box) fun b3 => ?_
 refine qn (K.box) fun b4 => ?_
 refine qn (K.box) fun b5 => ?_
 refine qa ?_
 refine sn (sr (K.mA (K.mkFunc) rfl ?_))
 refine zN ?_
 refine qa ?_
 refine sn (K.ret (et ?_))
 exact K.rets_v (b3, b4, b5) trivial rfl rfl Kq.s0

def wS (iv : Int) (b : List Int) (x : NtT) (wd : Int) : Nat → Option (List Int)
 | 0 => some b
 | 1 => bind1 b (bnd1 iv x wd).1 (bnd1 iv x wd).2.1 (bnd1 iv x wd).2.2
 | _ => (bind1 b (bnd1 iv x wd).1 (bnd1 iv x wd).2.1 (bnd1 iv x wd).2.2).bind fun b1 => bind1 b1 (bnd2 iv x wd).1 (bnd2 iv x wd).2.1 (bnd2 iv x wd).2.2
theorem wS_s {iv wd : Int} {b M : List Int} {x : NtT} {k : Nat} {s : Nat × Nat × Int} (h : wS iv b x wd k = some M) (hs : [bnd1 iv x wd, bnd2 iv x wd][k]? = some s) : wS iv b x wd (k + 1) = bind1 M s.1 s.2.1 s.2.2 := by
 match k, hs with
 | 0, hs => injection hs with hs; subst hs; injection h with h; subst h; rfl
 | 1, hs => injection hs with hs; subst hs; show (bind1 b _ _ _).bind _ = _; rw [show bind1 b (bnd1 iv x wd).1 (bnd1 iv x wd).2.1 (bnd1 iv x wd).2.2 = some M from h]; rfl
 | k + 2, hs => simp at hs
theorem wS_stop {iv wd : Int} {b M : List Int} {x : NtT} {k : Nat} {s : Nat × Nat × Int} (h : wS iv b x wd k = some M) (hs : [bnd1 iv x wd, bnd2 iv x wd][k]? = some s) (hn : bind1 M s.1 s.2.1 s.2.2 = none) : wthB iv b x wd = (M, false) := by
 unfold wthB
 match k, hs with
 | 0, hs => injection hs with hs; subst hs; injection h with h; subst h; rw [hn]
 | 1, hs => injection hs with hs; subst hs; rw [show bind1 b (bnd1 iv x wd).1 (bnd1 iv x wd).2.1 (bnd1 iv x wd).2.2 = some M from h]; dsimp only; rw [hn]
 | k + 2, hs => simp at hs
theorem wS_all {iv wd : Int} {b M : List Int} {x : NtT} (h : wS iv b x wd 2 = some M) : wthB iv b x wd = (M, true) := by
 unfold wthB
 obtain ⟨b1, h1, h2⟩ := Option.bind_eq_some_iff.1 h
 rw [h1]; dsimp only; rw [h2]
theorem wS_sm {iv wd : Int} {n : Nat} {x : NtT} {k : Nat} {s : Nat × Nat × Int} (hb : NtB iv n x) (hn : n ≤ 8) (hi : 1 ≤ iv ∧ iv ≤ 1000) (hw : 0 ≤ wd ∧ wd ≤ 50000) (hs : [bnd1 iv x wd, bnd2 iv x wd][k]? = some s) : s.1 < 9 ∧ s.2.1 < 9 ∧ -100000 ≤ s.2.2 ∧ s.2.2 ≤ 100000 := by
 have h := bnd_sm hb hn hi hw
 match k, hs with
 | 0, hs => injection hs with hs; subst hs; exact h.1
 | 1, hs => injection hs with hs; subst hs; exact h.2
 | k + 2, hs => simp at hs
theorem wS_cl {iv wd : Int} {n : Nat} {b M : List Int} {x : NtT} (hb : NtB iv n x) (hn : n ≤ 8) (hi : 1 ≤ iv ∧ iv ≤ 1000) (hw : 0 ≤ wd ∧ wd ≤ 50000) (c : Cl b) : ∀ {k : Nat}, k ≤ 2 → wS iv b x wd k = some M → Cl M := fun {k} hk h => by
 have hsm := bnd_sm hb hn hi hw
 match k, h with
 | 0, h => injection h with h; subst h; exact c
 | 1, h => exact bind1_cl c hsm.1.1 hsm.1.2.1 h
 | 2, h =>
  obtain ⟨b1, h1, h2⟩ := Option.bind_eq_some_iff.1 h
  exact bind1_cl (bind1_cl c hsm.1.1 hsm.1.2.1 h1) hsm.2.1 hsm.2.2.1 h2


end Go.Proofs.YtnhhfkgldoeifaaGreatDoor.Sh
end
section
namespace Go.Proofs.YtnhhfkgldoeifaaGreatDoor.Sh
open Go.RowKit Go
open Go.K (setd setn ev nth over cl eI eP eT setM setF)
attribute [local irreducible] K.blk K.row
def zM : List Int := List.replicate 81 0
theorem zM_len : zM.length = 81 := by unfold zM; simp
set_option maxRecDepth 100000 in
theorem zr_94m : K.zr Tryz.prog 94 = some (.agg (K.mI zM).toArray) := by kernel_rfl
theorem alloc_mx {P : Program} {w0 : World} {L : List K.Chunk} {l : List Value} {d : Option Tmp} {ty : TypeId} {ps : String} {af : Array Edge} {g : Option (Nat × Bool)} {t : TypeId} {us : List Value} (hz : K.zr P t = some (.agg us.toArray)) : K.Loud P w0 L ⟨d, .alloc t, ty, ps, af, g⟩ l (fun _ : Nat => True) (fun b => .pointer (some ⟨b, 0, none⟩)) (fun b => [K.blk b t us]) := by
 have h := K.alloc (P := P) (w0 := w0) (L := L) (l := l) (d := d) (ty := ty) (ps := ps) (af := af) (g := g) hz
 exact h

set_option maxRecDepth 100000 in
set_option maxHeartbeats 2000000 in
theorem c63 {iv : Int} {pts : List ByteArray} {nts : List NtT} {A B : Option Addr} {c d : Nat} {Bm : List Int} {i : Nat} {wd : Int} {w : World} (hN : K.Rd w B 5 eO nts) (g : GoodS iv pts nts) (hn : i < nts.length) (hwd : 0 ≤ wd ∧ wd ≤ 50000) (hcl : Cl Bm) :
  Calls Tryz.prog 63 [.agg #[.int .i64 iv, .slice A pts.length c, .slice B nts.length d], .agg (K.mI Bm).toArray, .int .i64 (i : Int), .int .i64 wd].toArray w (K.Gives (.tuple #[.agg (K.mI (wthB iv Bm (nts.getD i default) wd).1).toArray, .bool (wthB iv Bm (nts.getD i default) wd).2]) w) := by
 have hb := nt_b (g.t i hn)
 have hn8 := g.n.2
 refine R.enter (args := [.agg #[.int .i64 iv, .slice A pts.length c, .slice B nts.length d], .agg (K.mI Bm).toArray, .int .i64 (i : Int), .int .i64 wd]) Tryz.func63 rfl (m := 22) rfl ?_
 refine zR ?_
 refine R.seq ?_
 refine R.gA rfl ?_
 refine qn (K.box) fun b4 => ?_
 refine qn (K.box_mx rfl) fun b5 => ?_
 refine qn (alloc_mx zr_94m) fun b8 => ?_
 refine qn (K.alloc zr_4) fun b9 => ?_
 refine K.lA ?_
 refine R.out ?_
 refine R.dA ?_
 refine R.seq ?_
 refine R.seq ?_
 refine R.gA rfl ?_
 refine ql (K.jA ag_117 rfl (K.m3) rfl) ?_
 iterate 2 refine qm ?_
 refine K.gB (K.lB cal_98 (fun F w hF hw => c98 w)) rfl ?_
 rintro ⟨q1, q2, q3⟩ _
 refine zN ?_
 refine K.lA ?_
 refine R.out ?_
 refine R.dA ?_
 refine R.block ?_
 refine R.rangeC (gf := 126) (first := []) (cap := [.pointer (some ⟨q1, 0, none⟩), .pointer (some ⟨q2, 0, none⟩), .pointer (some ⟨q3, 0, none⟩)]) (enc := (fun s : Nat × Nat × Int => Value.agg #[.int .i64 (s.1 : Int), .int .i64 (s.2.1 : Int), .int .i64 s.2.2])) (XS := [bnd1 iv (nts.getD i default) wd, bnd2 iv (nts.getD i default) wd]) rfl cal_126 [K.blk b9 4 [.bool false], K.blk b8 94 (K.mI zM), K.blk b5 94 (K.mI Bm), K.blk b4 117 [.int .i64 iv, .slice A pts.length c, .slice B nts.length d]] [K.blk q3 3 [.int .i64 wd], K.blk q2 3 [.int .i64 (i : Int)], K.blk q1 117 [.int .i64 iv, .slice A pts.length c, .slice B nts.length d]] (K.st_perm (show List.Perm [K.blk q3 3 [.int .i64 wd], K.blk q2 3 [.int .i64 (i : Int)], K.blk q1 117 [.int .i64 iv, .slice A pts.length c, .slice B nts.length d], K.blk b9 4 [.bool false], K.blk b8 94 (K.mI zM), K.blk b5 94 (K.mI Bm), K.blk b4 117 [.int .i64 iv, .slice A pts.length c, .slice B nts.length d]] ([K.blk b9 4 [.bool false], K.blk b8 94 (K.mI zM), K.blk b5 94 (K.mI Bm), K.blk b4 117 [.int .i64 iv, .slice A pts.length c, .slice B nts.length d]] ++ [K.blk q3 3 [.int .i64 wd], K.blk q2 3 [.int .i64 (i : Int)], K.blk q1 117 [.int .i64 iv, .slice A pts.length c, .slice B nts.length d]]) from (List.Perm.trans (List.perm_middle (l₁ := [_, _, _])) (List.Perm.cons _ (List.Perm.trans (List.perm_middle (l₁ := [_, _, _])) (List.Perm.cons _ (List.Perm.trans (List.perm_middle (l₁ := [_, _, _])) (List.Perm.cons _ (List.Perm.trans (List.perm_middle (l₁ := [_, _, _])) (List.Perm.cons _ Kq.p0)))))))))) (R.fixC (R.fixC (R.fixC R.fixN))) (c126 (A := A) (B := B) (c := c) (d := d) hn g hwd) (fun f w hf => ⟨hf.own1 K.m2, hf.own1 K.m1, hf.own1 K.m0, hN.pass hf.1⟩) (fun k L => ∃ M, wS iv Bm (nts.getD i default) wd k = some M ∧ L = [K.blk b9 4 [.bool false], K.blk b8 94 (K.mI zM), K.blk b5 94 (K.mI M), K.blk b4 117 [.int .i64 iv, .slice A pts.length c, .slice B nts.length d]]) (fun cX L => cX = Code.ret ∧ ∃ M, Cl M ∧ wthB iv Bm (nts.getD i default) wd = (M, false) ∧ L = [K.blk b9 4 [.bool false], K.blk b8 94 (K.mI M), K.blk b5 94 (K.mI M), K.blk b4 117 [.int .i64 iv, .slice A pts.length c, .slice B nts.length d]]) ?_ ?_ ?_ ?_
 ·exact ⟨Bm, rfl, rfl⟩
 ·intro k s L lr E hs hE hJ
  obtain ⟨M, hk, rfl⟩ := hJ
  have hk2 : k ≤ 2 := Nat.le_of_lt (List.getElem?_eq_some_iff.1 hs).1
  have hM := wS_cl hb hn8 g.i hwd hcl hk2 hk
  have hsm := wS_sm hb hn8 g.i hwd hs
  try dsimp only [List.cons_append, List.nil_append]
  refine zY ?_
  refine R.gA rfl ?_
  refine qn (K.alloc zr_167) fun b10 => ?_
  refine qt (K.vA sz_167 rfl rfl rfl rfl (K.rp0)) ?_
  refine K.lA ?_
  refine R.out ?_
  refine R.dA ?_
  refine R.bodyC' rfl (fun E hE => ?_)
  dsimp only [List.dropLast, List.cons_append, List.nil_append]
  refine zN ?_
  refine R.block ?_
  refine R.seq ?_
  refine K.permH (L' := [_, _, _, _, _, _]) (List.Perm.trans (List.perm_middle (l₁ := [_, _, _])) (List.Perm.cons _ Kq.p0)) ?_
  refine R.gA rfl ?_
  refine qp (K.aA fo_167_0 rfl) ?_
  refine ql (K.fA one_3 rfl (K.m1) rfl) ?_
  refine qp (K.aA fo_167_1 rfl) ?_
  refine ql (K.fA one_3 rfl (K.m1) rfl) ?_
  refine qp (K.aA fo_167_2 rfl) ?_
  refine ql (K.fA one_3 rfl (K.m1) rfl) ?_
  refine K.xB (K.callU_f cal_60 (fun w hw => c60 hw hM.n hsm.1 hsm.2.1 (fun i k h1 h2 => hM.lo h1 h2) hsm.2.2)) rfl ?_
  rintro ⟨⟩ _
  refine zN ?_
  first | refine K.mA (K.fC rfl) rfl ?_ | refine K.mA (K.not_ rfl) rfl ?_
  refine zN ?_
  refine K.lA ?_
  refine R.out ?_
  refine R.dA ?_
  refine R.cond rfl (fun ht23 => ?_) (fun ht23 => ?_)
  ·try replace ht23 := Kq.oT ht23
   have hno : bind1 M s.1 s.2.1 s.2.2 = none := by
    cases hb1 : bind1 M s.1 s.2.1 s.2.2 with
    | none => rfl
    | some z => rw [hb1] at ht23; exact absurd ht23 (by simp)
   rw [hno, Option.getD_none]
   refine R.seq ?_
   refine R.gA rfl ?_
   refine ql (K.load_mx uC rfl ((K.m0)) (mx_len hM.n)) ?_
   refine qt (K.store_mx sz_94 rfl rfl (mx_len hM.n) (mx_len zM_len) (K.mI_one) (K.rp3)) ?_
   refine zN ?_
   refine qt (K.store sz_4 rfl rfl rfl rfl (K.rp2)) ?_
   refine K.lA ?_
   refine R.out ?_
   refine R.dA ?_
   refine R.ret ?_
   refine R.qA ?_
   refine K.permH (L' := [_, _, _, _, _, _]) (List.Perm.trans (List.perm_middle (l₁ := [_, _])) (List.Perm.cons _ (List.Perm.trans (List.perm_middle (l₁ := [_, _])) (List.Perm.cons _ (List.Perm.cons _ (Kq.pz (Kq.p0))))))) ?_
   exact R.rp_ret (L := [K.blk b9 4 [.bool false], K.blk b8 94 (K.mI M), K.blk b5 94 (K.mI M), K.blk b4 117 [.int .i64 iv, .slice A pts.length c, .slice B nts.length d]]) ⟨rfl, M, hM, wS_stop hk hs hno, rfl⟩ (Kq.sc (Kq.sc (Kq.sc (Kq.sc (Kq.s1 Kq.s0)))))
  try replace ht23 := Kq.oF ht23
  refine R.skip ?_
  refine R.kA ?_
  have h2 : wS iv Bm (nts.getD i default) wd (k + 1) = some ((bind1 M s.1 s.2.1 s.2.2).getD M) := by
   rw [wS_s hk hs]
   cases hb1 : bind1 M s.1 s.2.1 s.2.2 with
   | none => rw [hb1] at ht23; exact absurd ht23 (by simp)
   | some z => rfl
  refine K.permH (L' := [_, _, _, _, _, _]) (List.Perm.trans (List.perm_middle (l₁ := [_, _])) (List.Perm.cons _ (List.Perm.trans (List.perm_middle (l₁ := [_, _])) (List.Perm.cons _ (List.Perm.cons _ (Kq.pz (Kq.p0))))))) ?_
  exact R.rp_normal (L := [K.blk b9 4 [.bool false], K.blk b8 94 (K.mI zM), K.blk b5 94 (K.mI ((bind1 M s.1 s.2.1 s.2.2).getD M)), K.blk b4 117 [.int .i64 iv, .slice A pts.length c, .slice B nts.length d]]) ⟨_, h2, rfl⟩ (Kq.sc (Kq.sc (Kq.sc (Kq.sc (Kq.s1 Kq.s0)))))
 ·intro bD L hJ
  obtain ⟨M, hk, rfl⟩ := hJ
  have hM := wS_cl hb hn8 g.i hwd hcl (Nat.le_refl 2) hk
  have hw2 := wS_all hk
  try dsimp only [List.cons_append, List.nil_append]
  refine zY ?_
  refine R.kA ?_
  refine R.dA ?_
  refine R.seq ?_
  refine R.gA rfl ?_
  refine ql (K.load_mx uC rfl ((K.m2)) (mx_len hM.n)) ?_
  refine qt (K.store_mx sz_94 rfl rfl (mx_len hM.n) (mx_len zM_len) (K.mI_one) (K.rp1)) ?_
  refine zN ?_
  refine qt (K.store sz_4 rfl rfl rfl rfl (K.rp0)) ?_
  refine K.lA ?_
  refine R.out ?_
  refine R.dA ?_
  refine R.ret ?_
  refine R.end_ret1 rfl (by dsimp only [List.dropLast]; exact (fun w hw => K.res_cc rfl rfl rfl (K.run_cellM uC rfl (K.m1) (mx_len hM.n) w hw) (K.tB qC rfl (K.m0) w hw))) ?_
  dsimp only [List.dropLast]
  exact K.gives (by rw [hw2])
 ·intro bD cX L hJ
  obtain ⟨rfl, M, hM, hw2, rfl⟩ := hJ
  try dsimp only [List.cons_append, List.nil_append]
  refine zY ?_
  refine R.ret ?_
  refine R.qA ?_
  refine R.iA ?_
  refine R.end_ret1 rfl (by dsimp only [List.dropLast]; exact (fun w hw => K.res_cc rfl rfl rfl (K.run_cellM uC rfl (K.m1) (mx_len hM.n) w hw) (K.tB qC rfl (K.m0) w hw))) ?_
  dsimp only [List.dropLast]
  exact K.gives (by rw [hw2])

end Go.Proofs.YtnhhfkgldoeifaaGreatDoor.Sh
end
section
namespace Go.Proofs.YtnhhfkgldoeifaaGreatDoor.Sh
open Go.RowKit Go
open Go.K (setd setn ev nth over cl eI eP eT setM setF)
attribute [local irreducible] K.blk K.row
theorem all_s {iv wd : Int} {ns : List NtT} {k : Nat} (h : (allB iv ns wd k).2 = true) : allB iv ns wd (k + 1) = wthB iv (allB iv ns wd k).1 (ns.getD k default) wd := by
 conv => lhs; unfold allB
 rw [if_pos h]
theorem all_stop {iv wd : Int} {ns : List NtT} {k : Nat} (h : (allB iv ns wd k).2 = false) : ∀ {n : Nat}, k ≤ n → allB iv ns wd n = allB iv ns wd k := fun {n} hn => by
 induction n with
 | zero => rw [show k = 0 by omega]
 | succ n ih =>
  rcases Nat.lt_or_ge k (n + 1) with h1 | h1
  ·have e := ih (by omega)
   conv => lhs; unfold allB
   rw [if_neg (by rw [e, h]; decide), e]
  ·rw [show k = n + 1 by omega]
theorem all_c {iv wd : Int} {pts : List ByteArray} {nts : List NtT} {k : Nat} (g : GoodS iv pts nts) (hk : k ≤ nts.length) : Cl (allB iv nts wd k).1 := all_cl g.n.2 (fun i hi => (nt_good (g.t i hi)).1) k hk

theorem bl117 (iv : Int) (A B : Option Addr) (n c m d : Nat) : K.Bl Tryz.prog 117 [(0, .agg #[.int .i64 iv, .slice A n c, .slice B m d])] (.agg #[.int .i64 iv, .slice A n c, .slice B m d]) := fun w => by kernel_rfl

set_option maxRecDepth 100000 in
set_option maxHeartbeats 1000000 in
theorem c85 {iv : Int} {pts : List ByteArray} {nts : List NtT} {A B : Option Addr} {c d : Nat} {wd : Int} {w : World} (hN : K.Rd w B 5 eO nts) (g : GoodS iv pts nts) (hwd : 0 ≤ wd ∧ wd ≤ 50000) :
  Calls Tryz.prog 85 [.agg #[.int .i64 iv, .slice A pts.length c, .slice B nts.length d], .int .i64 wd].toArray w (K.Gives (.tuple #[.agg (K.mI (allB iv nts wd nts.length).1).toArray, .bool (allB iv nts wd nts.length).2]) w) := by
 have hgl := g.l
 refine K.enter (args := [.agg #[.int .i64 iv, .slice A pts.length c, .slice B nts.length d], .int .i64 wd]) Tryz.func85 rfl (n := 26) rfl ?_
 refine zR ?_
 refine sr ?_
 refine qn (K.box) fun b2 => ?_
 refine qn (alloc_mx zr_94m) fun b4 => ?_
 refine qa ?_
 refine sn (sr (qc (K.nA cal_62 (fun F w hF hw => c62 w)) ?_))
 refine qt (K.store_mx sz_94 rfl rfl (mx_len mkB_len) (mx_len zM_len) K.mI_one (K.rp0)) ?_
 refine zN ?_
 refine sn (K.seq (sr (qp (K.aA fo_117_0 rfl) ?_)))
 refine qp (K.aA fo_25_2 rfl) ?_
 refine ql (K.fA one_23 rfl (K.m1) rfl) ?_
 refine qp (K.aB sl_23 rfl) ?_
 refine qm ?_
 refine sn (K.block ?_)
 refine K.loopW [12] [5, 6, 13, 14, 15, 16, 17, 18, 19, 20, 21, 22, 23, 24, 25, 26] (fun vi L => ∃ k : Nat, vi = [.int .i64 (k : Int)] ∧ L = [K.blk b4 94 (K.mI (allB iv nts wd k).1), K.blk b2 117 [.int .i64 iv, .slice A pts.length c, .slice B nts.length d]] ∧ k ≤ nts.length ∧ (allB iv nts wd k).2 = true) (fun vi => nts.length - (intOf (K.nth vi 0)).toNat) ?_ ?_
 ·exact ⟨0, rfl, rfl, Nat.zero_le _, rfl⟩
 intro vi vr L hJ
 obtain ⟨k, rfl, rfl, hkn, h2⟩ := hJ
 refine zY ?_
 refine sr (qp (K.lss rfl rfl) ?_)
 refine sn (K.seq ?_)
 refine K.cond rfl (fun ht13 => ?_) (fun ht13 => ?_)
 ·try replace ht13 := Kq.oT ht13
  have hk : k < nts.length := by omega
  have hcl := all_c (wd := wd) g hkn
  have hcl2 := all_c (wd := wd) g (k := k + 1) (by omega)
  have hs := all_s h2
  rw [hs] at hcl2
  refine K.skip (K.dA (K.seq (K.block (sr (qm ?_)))))
  refine qa ?_
  refine sn (sr (ql (K.jA ag_117 rfl (K.m1) rfl) ?_))
  refine ql (K.load_mx uC rfl ((K.m0)) (mx_len hcl.n)) ?_
  iterate 2 refine qm ?_
  refine qc (K.nA cal_63 (fun F w hF hw => c63 (hN.pass hw) g hk hwd hcl)) ?_
  refine qm ?_
  iterate 2 refine qx ?_
  refine qt (K.store_mx sz_94 rfl rfl (mx_len hcl2.n) (mx_len hcl.n) K.mI_one (K.rp0)) ?_
  refine zN ?_
  refine qa ?_
  refine sn (sr (qm ?_))
  first | refine K.mA (K.fC rfl) rfl ?_ | refine K.mA (K.not_ rfl) rfl ?_
  refine zN ?_
  refine sn ?_
  refine K.cond rfl (fun ht24 => ?_) (fun ht24 => ?_)
  ·try replace ht24 := Kq.oT ht24
   have hf : (wthB iv (allB iv nts wd k).1 (nts.getD k default) wd).2 = false := by simpa using ht24
   have hst := all_stop (iv := iv) (wd := wd) (ns := nts) (k := k + 1) (by rw [hs]; exact hf) (n := nts.length) (by omega)
   refine sr (ql (K.load_mx uC rfl ((K.m0)) (mx_len hcl2.n)) ?_)
   refine qt (K.store_mx sz_94 rfl rfl (mx_len hcl2.n) (mx_len hcl2.n) K.mI_one (K.rp0)) ?_
   refine zN ?_
   refine qa ?_
   refine sn (K.ret (K.qA (K.iA (K.iA (K.qA (K.iA ?_))))))
   refine K.wA (fun w hw => K.res_ct rfl rfl (K.run_cellM uC rfl (K.m0) (mx_len hcl2.n) w hw)) ?_
   exact K.gives (by rw [hst, hs, hf] <;> rfl)
  try replace ht24 := Kq.oF ht24
  have hf : (wthB iv (allB iv nts wd k).1 (nts.getD k default) wd).2 = true := by simpa using ht24
  refine K.skip (K.kA (K.dA (K.gA (qp (K.tA rfl rfl (by omega)) ?_))))
  refine qm ?_
  refine K.lA ?_
  exact K.rA (L'' := [K.blk b4 94 (K.mI (allB iv nts wd (k + 1)).1), K.blk b2 117 [.int .i64 iv, .slice A pts.length c, .slice B nts.length d]]) [.int .i64 ((k : Int) + 1)] ⟨k + 1, rfl, rfl, by omega, by rw [hs]; exact hf⟩ (by simp [K.nth, intOf]; omega) (by rw [hs]; exact List.Sublist.refl _) (by kernel_rfl)
 try replace ht13 := Kq.oF ht13
 have e0 : k = nts.length := by omega
 subst e0
 have hcl := all_c (wd := wd) g hkn
 refine K.exit (K.pA (K.pA (K.zA (K.dA (sr (ql (K.load_mx uC rfl ((K.m0)) (mx_len hcl.n)) ?_))))))
 refine qt (K.store_mx sz_94 rfl rfl (mx_len hcl.n) (mx_len hcl.n) K.mI_one (K.rp0)) ?_
 refine zN ?_
 refine qa ?_
 refine sn (K.ret ?_)
 refine K.wA (fun w hw => K.res_ct rfl rfl (K.run_cellM uC rfl (K.m0) (mx_len hcl.n) w hw)) ?_
 exact K.gives (by rw [h2] <;> rfl)

set_option maxRecDepth 100000 in
theorem c46y {iv : Int} {pts : List ByteArray} {nts : List NtT} {A B : Option Addr} {c d : Nat} {w : World} (hP : K.Rd w A 1 eG pts) (hN : K.Rd w B 5 eO nts) (g : GoodS iv pts nts) (hA : (allB iv nts 0 nts.length).2 = true) :
  Calls Tryz.prog 46 [.agg #[.int .i64 iv, .slice A pts.length c, .slice B nts.length d]].toArray w (K.Gives (.tuple #[.agg (K.mI (allB iv nts 0 nts.length).1).toArray, .int .i64 0]) w) := by
 have hcl := all_c (wd := 0) g (Nat.le_refl _)
 refine K.enter (args := [.agg #[.int .i64 iv, .slice A pts.length c, .slice B nts.length d]]) Tryz.func46 rfl (n := 24) rfl ?_
 refine zR ?_
 refine sr ?_
 refine qn (K.box) fun b1 => ?_
 refine qn (alloc_mx zr_94m) fun b2 => ?_
 refine qa ?_
 refine sn (K.seq (sr (ql (K.jA ag_25 rfl (K.m1) rfl) ?_)))
 refine qc (K.nA cal_58 (fun F w hF hw => c58 (hP.pass hw) (hN.pass hw) g)) ?_
 refine qm ?_
 iterate 3 refine qx ?_
 refine qa ?_
 refine sn (sr (qm ?_))
 refine qp (K.Pure.eq (K.neq rfl rfl) (show _ = Value.bool false from rfl)) ?_
 refine sn (K.oA rfl ?_)
 refine K.skip (K.dA (sr (ql (K.jA ag_25 rfl (K.m1) rfl) ?_)))
 refine K.mA (K.build (bl117 _ _ _ _ _ _ _)) rfl ?_
 refine zN ?_
 refine qc (K.nA cal_85 (fun F w hF hw => (by have hg := c85 (wd := 0) (pts := pts) (A := A) (B := B) (c := c) (d := d) (hN.pass hw) g (by omega); rw [hA] at hg; exact hg))) ?_
 refine qm ?_
 iterate 2 refine qx ?_
 refine qt (K.store_mx sz_94 rfl rfl (mx_len hcl.n) (mx_len zM_len) K.mI_one (K.rp0)) ?_
 refine zN ?_
 refine qa ?_
 refine sn (K.seq (sr (qm ?_)))
 first | refine K.mA (K.Pure.eq (K.fC rfl) (show _ = Value.bool false from rfl)) rfl ?_ | refine K.mA (K.Pure.eq (K.not_ rfl) (show _ = Value.bool false from rfl)) rfl ?_
 refine zN ?_
 refine sn (K.oA rfl ?_)
 refine K.skip (K.dA (sr (ql (K.load_mx uC rfl ((K.m0)) (mx_len hcl.n)) ?_)))
 refine qt (K.store_mx sz_94 rfl rfl (mx_len hcl.n) (mx_len hcl.n) K.mI_one (K.rp0)) ?_
 refine zN ?_
 refine qa ?_
 refine sn (K.ret ?_)
 refine K.wA (fun w hw => K.res_ct rfl rfl (K.run_cellM uC rfl (K.m0) (mx_len hcl.n) w hw)) ?_
 exact K.gives rfl

set_option maxRecDepth 100000 in
theorem c46n {iv : Int} {pts : List ByteArray} {nts : List NtT} {A B : Option Addr} {c d : Nat} {w : World} (hP : K.Rd w A 1 eG pts) (hN : K.Rd w B 5 eO nts) (g : GoodS iv pts nts) (hA : (allB iv nts 0 nts.length).2 = false) :
  Calls Tryz.prog 46 [.agg #[.int .i64 iv, .slice A pts.length c, .slice B nts.length d]].toArray w (K.Gives (.tuple #[.agg (K.mI (allB iv nts 0 nts.length).1).toArray, .int .i64 9]) w) := by
 have hcl := all_c (wd := 0) g (Nat.le_refl _)
 refine K.enter (args := [.agg #[.int .i64 iv, .slice A pts.length c, .slice B nts.length d]]) Tryz.func46 rfl (n := 24) rfl ?_
 refine zR ?_
 refine sr ?_
 refine qn (K.box) fun b1 => ?_
 refine qn (alloc_mx zr_94m) fun b2 => ?_
 refine qa ?_
 refine sn (K.seq (sr (ql (K.jA ag_25 rfl (K.m1) rfl) ?_)))
 refine qc (K.nA cal_58 (fun F w hF hw => c58 (hP.pass hw) (hN.pass hw) g)) ?_
 refine qm ?_
 iterate 3 refine qx ?_
 refine qa ?_
 refine sn (sr (qm ?_))
 refine qp (K.Pure.eq (K.neq rfl rfl) (show _ = Value.bool false from rfl)) ?_
 refine sn (K.oA rfl ?_)
 refine K.skip (K.dA (sr (ql (K.jA ag_25 rfl (K.m1) rfl) ?_)))
 refine K.mA (K.build (bl117 _ _ _ _ _ _ _)) rfl ?_
 refine zN ?_
 refine qc (K.nA cal_85 (fun F w hF hw => (by have hg := c85 (wd := 0) (pts := pts) (A := A) (B := B) (c := c) (d := d) (hN.pass hw) g (by omega); rw [hA] at hg; exact hg))) ?_
 refine qm ?_
 iterate 2 refine qx ?_
 refine qt (K.store_mx sz_94 rfl rfl (mx_len hcl.n) (mx_len zM_len) K.mI_one (K.rp0)) ?_
 refine zN ?_
 refine qa ?_
 refine sn (K.seq (sr (qm ?_)))
 first | refine K.mA (K.Pure.eq (K.fC rfl) (show _ = Value.bool true from rfl)) rfl ?_ | refine K.mA (K.Pure.eq (K.not_ rfl) (show _ = Value.bool true from rfl)) rfl ?_
 refine zN ?_
 refine sn (K.yA rfl ?_)
 refine sr (ql (K.load_mx uC rfl ((K.m0)) (mx_len hcl.n)) ?_)
 refine qt (K.store_mx sz_94 rfl rfl (mx_len hcl.n) (mx_len hcl.n) K.mI_one (K.rp0)) ?_
 refine zN ?_
 refine qa ?_
 refine sn (K.ret (K.iA ?_))
 refine K.wA (fun w hw => K.res_ct rfl rfl (K.run_cellM uC rfl (K.m0) (mx_len hcl.n) w hw)) ?_
 exact K.gives rfl

end Go.Proofs.YtnhhfkgldoeifaaGreatDoor.Sh
end
section
namespace Go.Proofs.YtnhhfkgldoeifaaGreatDoor.Sh
open Go.RowKit Go
open Go.K (setd setn ev nth over cl eI eP eT setM setF)
attribute [local irreducible] K.blk K.row
theorem hgt_s {b : List Int} {k : Nat} : hgtL b (k + 1) = hgtL b k ++ [(-(bat b k 8), bat b 8 k)] := by unfold hgtL; rw [List.range_succ, List.map_append]; rfl
theorem hgt_len {b : List Int} {k : Nat} : (hgtL b k).length = k := by unfold hgtL; simp
theorem bsP41 (a b : Int) : K.Bs Tryz.prog 41 1 [(0, .agg #[.int .i64 a, .int .i64 b])] 46 [.int .i64 a, .int .i64 b] := fun w => by kernel_rfl

set_option maxRecDepth 100000 in
set_option maxHeartbeats 1000000 in
theorem c9y {iv : Int} {pts : List ByteArray} {nts : List NtT} {A B : Option Addr} {c d : Nat} {w : World} (hP : K.Rd w A 1 eG pts) (hN : K.Rd w B 5 eO nts) (g : GoodS iv pts nts) (hA : (allB iv nts 0 nts.length).2 = true) :
  Calls Tryz.prog 9 [.agg #[.int .i64 iv, .slice A pts.length c, .slice B nts.length d]].toArray w (K.RetSE 46 2 K.eP (hgtL (allB iv nts 0 nts.length).1 pts.length) 0 w) := by
 have hcl := all_c (wd := 0) g (Nat.le_refl _)
 have hgn := g.n
 refine K.enter (args := [.agg #[.int .i64 iv, .slice A pts.length c, .slice B nts.length d]]) Tryz.func9 rfl (n := 34) rfl ?_
 refine zR ?_
 refine sr ?_
 refine qn (K.box) fun b1 => ?_
 iterate 2 refine qa ?_
 refine sn (sr (ql (K.jA ag_25 rfl (K.m0) rfl) ?_))
 refine qc (K.nA cal_46 (fun F w hF hw => c46y (hP.pass hw) (hN.pass hw) g hA)) ?_
 refine qm ?_
 iterate 2 refine qx ?_
 refine qn (alloc_mx zr_94m) fun b4 => ?_
 refine qt (K.store_mx sz_94 rfl rfl (mx_len hcl.n) (mx_len zM_len) K.mI_one (K.rp0)) ?_
 refine zN ?_
 refine qa ?_
 refine sn (K.seq (sr (qm ?_)))
 refine qp (K.Pure.eq (K.neq rfl rfl) (show _ = Value.bool false from rfl)) ?_
 refine sn (K.oA rfl ?_)
 refine K.skip (K.dA (K.seq (sr ?_)))
 refine K.jC (e := 46) (size := 2) ?_
 refine K.permH (L' := [_, _, _]) (Kq.pz ((Kq.pz (Kq.p0)))) ?_
 refine qp (K.aA fo_25_1 rfl) ?_
 refine ql (K.fA one_22 rfl (K.m1) rfl) ?_
 refine qp (K.aB sl_22 rfl) ?_
 refine qm ?_
 refine sn (K.block ?_)
 refine K.loopW [2, 17] [5, 18, 19, 20, 21, 22, 23, 24, 25, 26, 27, 28, 29, 30, 31, 32, 33] (fun vi L => ∃ (k : Nat) (Q : Option Addr) (q : Nat), vi = [.slice Q (hgtL (allB iv nts 0 nts.length).1 k).length q, .int .i64 (k : Int)] ∧ L = [K.blk b4 94 (K.mI (allB iv nts 0 nts.length).1), K.blk b1 25 [.int .i64 iv, .slice A pts.length c, .slice B nts.length d], K.row (.slice Q (hgtL (allB iv nts 0 nts.length).1 k).length q) 46 2 (hgtL (allB iv nts 0 nts.length).1 k).length ((hgtL (allB iv nts 0 nts.length).1 k).flatMap K.eP)] ∧ k ≤ pts.length) (fun vi => pts.length - (intOf (K.nth vi 1)).toNat) ?_ ?_
 ·exact ⟨0, none, 0, rfl, rfl, Nat.zero_le _⟩
 intro vi vr L hJ
 obtain ⟨k, Q, q, rfl, rfl, hkn⟩ := hJ
 refine zY ?_
 refine sr (qp (K.lss rfl rfl) ?_)
 refine sn (K.seq ?_)
 refine K.cond rfl (fun ht18 => ?_) (fun ht18 => ?_)
 ·try replace ht18 := Kq.oT ht18
  have hk : k < pts.length := by omega
  have hc1 := mx_at (B := (allB iv nts 0 nts.length).1) (i := k) (k := 8) hcl.n (by omega) (by omega)
  have hc2 := mx_at (B := (allB iv nts 0 nts.length).1) (i := 8) (k := k) hcl.n (by omega) (by omega)
  have hlo := hcl.lo (i := k) (k := 8) (by omega) (by omega)
  refine K.skip (K.dA (K.seq (K.block (sr (qm ?_)))))
  refine qa ?_
  refine sn ?_
  refine K.draw_take 2 [] uA ?_
  refine dp 0 rfl (K.move) ?_
  refine dp 1 rfl (K.move) ?_
  refine dp 2 rfl (K.Pure.eq (K.iB ar_94 rfl rfl (by omega) (by omega)) (show _ = Value.pointer (some ⟨b4, 0 + k * 9, none⟩) from by rw [Int.toNat_natCast])) ?_
  refine dp 3 rfl (K.Pure.eq (K.iB ar_92 rfl rfl (by omega) (by omega)) (show _ = Value.pointer (some ⟨b4, 0 + k * 9 + 8, none⟩) from rfl)) ?_
  refine K.aC 4 rfl (K.mB one_3 rfl (K.PtrL.own' ((K.m0))) hc1) (fun _ h => K.dC 2 _ h) (by kernel_rfl) (by kernel_rfl) rfl ?_
  refine zN ?_
  refine dp 5 rfl (K.neg_i64 rfl (by omega)) ?_
  refine dp 6 rfl (K.move) ?_
  refine dp 7 rfl (K.Pure.eq (K.iB ar_94 rfl rfl (by omega) (by omega)) (show _ = Value.pointer (some ⟨b4, 0 + 8 * 9, none⟩) from rfl)) ?_
  refine dp 8 rfl (K.Pure.eq (K.iB ar_92 rfl rfl (by omega) (by omega)) (show _ = Value.pointer (some ⟨b4, 0 + 8 * 9 + k, none⟩) from by rw [Int.toNat_natCast, Nat.mul_one])) ?_
  refine K.aC 9 rfl (K.mB one_3 rfl (K.PtrL.own' ((K.m0))) hc2) (fun _ h => K.dC 2 _ h) (by kernel_rfl) (by kernel_rfl) rfl ?_
  refine zN ?_
  refine dp 10 rfl (K.build (bl46 _ _)) ?_
  refine K.d_new 11 rfl (K.buildSlice (bsP41 _ _)) (fun _ h => K.dC 2 _ h) (by kernel_rfl) rfl ?_
  intro b31
  refine zN ?_
  refine K.sC 12 rfl (K.append el_41 rfl rfl (K.PtrL.own' (K.m0)) rfl rfl (by decide) (by rw [hgt_len]; omega) (by rw [hgt_len]; omega) (fun _ _ => K.rp3)) (fun _ => fun _ h => K.tl (K.dC 2 _ h)) (by kernel_rfl) rfl ?_
  rintro ⟨g32, c32⟩ _
  refine zN ?_
  refine dp 13 rfl (K.assign) ?_
  refine dd (K.kA (K.dA (K.gA (qp (K.tA rfl rfl (by omega)) ?_))))
  refine qm ?_
  refine K.lA ?_
  refine K.permH (L' := [_, _, _, _]) (Kq.pz ((Kq.pz ((Kq.pz (Kq.p0)))))) ?_
  exact K.rA (L'' := [K.blk b4 94 (K.mI (allB iv nts 0 nts.length).1), K.blk b1 25 [.int .i64 iv, .slice A pts.length c, .slice B nts.length d], K.row (.slice (some ⟨g32, 0, none⟩) ((hgtL (allB iv nts 0 nts.length).1 k).length + 1) c32) 46 2 ((hgtL (allB iv nts 0 nts.length).1 k).length + 1) ((hgtL (allB iv nts 0 nts.length).1 k).flatMap K.eP ++ [.int .i64 (-(bat (allB iv nts 0 nts.length).1 k 8)), .int .i64 (bat (allB iv nts 0 nts.length).1 8 k)])]) [.slice (some ⟨g32, 0, none⟩) ((hgtL (allB iv nts 0 nts.length).1 k).length + 1) c32, .int .i64 ((k : Int) + 1)] ⟨k + 1, some ⟨g32, 0, none⟩, c32, by rw [hgt_s, List.length_append]; rfl, by rw [hgt_s, List.length_append, List.flatMap_append]; rfl, by omega⟩ (by simp [K.nth, intOf]; omega) (Kq.sc (Kq.sc (Kq.sc (List.nil_sublist _)))) (by kernel_rfl)
 try replace ht18 := Kq.oF ht18
 refine K.exit (K.pA (K.pA (K.zA (K.dA (sr (qm ?_))))))
 iterate 2 refine qa ?_
 refine sn (K.ret ?_)
 refine K.wA (fun w _ => K.qB rfl w) ?_
 have e0 : k = pts.length := by omega
 subst e0
 exact K.rets_se K.m2 rfl rfl rfl rfl

set_option maxRecDepth 100000 in
theorem c9n {iv : Int} {pts : List ByteArray} {nts : List NtT} {A B : Option Addr} {c d : Nat} {w : World} (hP : K.Rd w A 1 eG pts) (hN : K.Rd w B 5 eO nts) (g : GoodS iv pts nts) (hA : (allB iv nts 0 nts.length).2 = false) :
  Calls Tryz.prog 9 [.agg #[.int .i64 iv, .slice A pts.length c, .slice B nts.length d]].toArray w (K.Gives (.tuple #[.slice none 0 0, .int .i64 9]) w) := by
 have hcl := all_c (wd := 0) g (Nat.le_refl _)
 refine K.enter (args := [.agg #[.int .i64 iv, .slice A pts.length c, .slice B nts.length d]]) Tryz.func9 rfl (n := 34) rfl ?_
 refine zR ?_
 refine sr ?_
 refine qn (K.box) fun b1 => ?_
 iterate 2 refine qa ?_
 refine sn (sr (ql (K.jA ag_25 rfl (K.m0) rfl) ?_))
 refine qc (K.nA cal_46 (fun F w hF hw => c46n (hP.pass hw) (hN.pass hw) g hA)) ?_
 refine qm ?_
 iterate 2 refine qx ?_
 refine qn (alloc_mx zr_94m) fun b4 => ?_
 refine qt (K.store_mx sz_94 rfl rfl (mx_len hcl.n) (mx_len zM_len) K.mI_one (K.rp0)) ?_
 refine zN ?_
 refine qa ?_
 refine sn (K.seq (sr (qm ?_)))
 refine qp (K.Pure.eq (K.neq rfl rfl) (show _ = Value.bool true from rfl)) ?_
 refine sn (K.yA rfl ?_)
 refine sr (qm ?_)
 iterate 2 refine qa ?_
 refine sn (K.ret (K.iA ?_))
 refine K.wA (fun w _ => K.qB rfl w) ?_
 exact K.gives rfl

end Go.Proofs.YtnhhfkgldoeifaaGreatDoor.Sh
end
section
namespace Go.Proofs.YtnhhfkgldoeifaaGreatDoor.Sh
open Go.RowKit Go
open Go.K (setd setn ev nth over cl eI eP eT setM setF)
attribute [local irreducible] K.blk K.row
theorem s2_46 : K.eq2 Tryz.prog 46 = true := by kernel_rfl

set_option maxRecDepth 100000 in
theorem c13 {n : Int} {A : Option Addr} {c : Nat} {xs : List Int} {w : World} (hX : K.Rd w A 1 K.eI xs) (hn : xs.length ≤ 4611686018427387904) :
  Calls Tryz.prog 13 [.slice A xs.length c, .int .i64 n].toArray w (K.Gives (.bool (decide (n ∈ xs))) w) := by
 refine K.enter (args := [.slice A xs.length c, .int .i64 n]) Tryz.func13 rfl (n := 16) rfl ?_
 refine zR ?_
 refine sr (qa ?_)
 refine sn (K.seq (sr (qa ?_)))
 refine sn (K.block ?_)
 refine K.loopW [5] [4, 6, 7, 8, 9, 10, 11, 12, 13, 14, 15, 16, 17] (fun vi L => ∃ k : Nat, vi = [.int .i64 (k : Int)] ∧ L = [] ∧ k ≤ xs.length ∧ ∀ j, j < k → xs.getD j default ≠ n) (fun vi => xs.length - (intOf (K.nth vi 0)).toNat) ?_ ?_
 ·exact ⟨0, rfl, rfl, Nat.zero_le _, fun j hj => absurd hj (Nat.not_lt_zero j)⟩
 intro vi vr L hJ
 obtain ⟨k, rfl, rfl, hkn, hall⟩ := hJ
 refine zY ?_
 refine K.seq (sr ?_)
 iterate 2 refine qm ?_
 refine qp (K.aB yB rfl) ?_
 refine qp (K.lss rfl rfl) ?_
 refine sn ?_
 refine K.cond rfl (fun ht9 => ?_) (fun ht9 => ?_)
 ·try replace ht9 := Kq.oT ht9
  have hk : k < xs.length := by omega
  refine K.skip (K.dA (K.seq (K.block (sr ?_))))
  iterate 2 refine qm ?_
  refine K.vB (M := []) _ hX.sl yB rfl rfl rfl (by omega) rfl ?_
  intro p14 hp14
  refine zN ?_
  refine ql (K.load1 one_3 rfl (hp14.any)) ?_
  refine qm ?_
  refine qp (K.eql rfl rfl) ?_
  refine sn ?_
  refine K.cond rfl (fun ht17 => ?_) (fun ht17 => ?_)
  ·try replace ht17 := Kq.oT ht17
   refine sr (qa ?_)
   refine sn (K.ret (K.qA (K.iA (K.iA (K.qA (K.iA (et ?_)))))))
   exact K.pB rfl (decide_eq_true (by rw [← ht17]; exact K.gt_mem hk)).symm
  try replace ht17 := Kq.oF ht17
  refine K.skip (K.kA (K.dA (K.gA (qm ?_))))
  refine qp (K.tA rfl rfl (by omega)) ?_
  refine qa ?_
  refine K.lA ?_
  exact K.rA (L'' := []) [.int .i64 ((k : Int) + 1)] ⟨k + 1, rfl, rfl, by omega, K.fB hall ht17⟩ (by simp [K.nth, intOf]; omega) (List.nil_sublist _) (by kernel_rfl)
 try replace ht9 := Kq.oF ht9
 refine K.exit (K.pA (K.pA (K.zA (K.dA (sr (qa ?_))))))
 refine sn (K.ret (et ?_))
 exact K.pB rfl (decide_eq_false (fun h => by
  obtain ⟨j, hj, e⟩ := List.getElem_of_mem h
  refine hall j (by omega) ?_
  rw [List.getD_eq_getElem?_getD, List.getElem?_eq_getElem hj]; exact e)).symm

set_option maxRecDepth 100000 in
theorem c32 {A B : Option Addr} {c d : Nat} {xs : List (Int × Int)} {w : World} (hX : K.Rd w A 2 K.eP xs) (hY : K.Rd w B 2 K.eP xs) (hn : xs.length ≤ 4611686018427387904) :
  Calls Tryz.prog 32 [.slice A xs.length c, .slice B xs.length d].toArray w (K.Gives (.bool true) w) := by
 refine K.enter (args := [.slice A xs.length c, .slice B xs.length d]) Tryz.func32 rfl (n := 24) rfl ?_
 refine zR ?_
 refine sr (qa ?_)
 refine sn (K.seq (sr (qm ?_)))
 refine qp (K.aB sl_41 rfl) ?_
 refine qm ?_
 refine qp (K.aB sl_41 rfl) ?_
 refine qp (K.Pure.eq (K.neq rfl rfl) (show _ = Value.bool false from congrArg Value.bool (decide_eq_false (fun h => h rfl)))) ?_
 refine sn (K.oA rfl ?_)
 refine K.skip (K.dA (K.seq (sr (qa ?_))))
 refine sn (K.block ?_)
 refine K.loopW [5] [4, 11, 12, 13, 14, 15, 16, 17, 18, 19, 20, 21, 22, 23, 24, 25] (fun vi L => ∃ k : Nat, vi = [.int .i64 (k : Int)] ∧ L = [] ∧ k ≤ xs.length) (fun vi => xs.length - (intOf (K.nth vi 0)).toNat) ?_ ?_
 ·exact ⟨0, rfl, rfl, Nat.zero_le _⟩
 intro vi vr L hJ
 obtain ⟨k, rfl, rfl, hkn⟩ := hJ
 refine zY ?_
 refine K.seq (sr ?_)
 iterate 2 refine qm ?_
 refine qp (K.aB sl_41 rfl) ?_
 refine qp (K.lss rfl rfl) ?_
 refine sn ?_
 refine K.cond rfl (fun ht14 => ?_) (fun ht14 => ?_)
 ·try replace ht14 := Kq.oT ht14
  have hk : k < xs.length := by omega
  refine K.skip (K.dA (K.seq (K.block (K.seq ?_))))
  refine K.nB [] uA ?_
  refine dp 0 rfl (K.move) ?_
  refine dp 1 rfl (K.move) ?_
  refine K.d_ix (M := []) 2 _ rfl hX.sl sl_41 rfl rfl rfl (by omega) (by kernel_rfl) rfl ?_
  intro p19 hp19
  refine zN ?_
  refine dm 3 rfl (K.uB kC rfl (hp19.any) rfl) ?_
  refine dp 4 rfl (K.move) ?_
  refine dp 5 rfl (K.move) ?_
  refine K.d_ix (M := []) 6 _ rfl hY.sl sl_41 rfl rfl rfl (by omega) (by kernel_rfl) rfl ?_
  intro p23 hp23
  refine zN ?_
  refine dm 7 rfl (K.uB kC rfl (hp23.any) rfl) ?_
  refine dp 8 rfl (K.Pure.eq (K.neq_s2 s2_46 rfl rfl) (show _ = Value.bool false from congrArg Value.bool (decide_eq_false (fun h => h rfl)))) ?_
  refine dd (K.dA (K.oA rfl ?_))
  refine K.skip (K.kA (K.dA (K.gA (qm ?_))))
  refine qp (K.tA rfl rfl (by omega)) ?_
  refine qa ?_
  refine K.lA ?_
  exact K.rA (L'' := []) [.int .i64 ((k : Int) + 1)] ⟨k + 1, rfl, rfl, by omega⟩ (by simp [K.nth, intOf]; omega) (List.nil_sublist _) (by kernel_rfl)
 try replace ht14 := Kq.oF ht14
 refine K.exit (K.pA (K.pA (K.zA (K.dA (sr (qa ?_))))))
 refine sn (K.ret (et ?_))
 exact K.gives rfl

set_option maxRecDepth 100000 in
theorem c23y {iv : Int} {pts : List ByteArray} {nts : List NtT} {A B : Option Addr} {c d : Nat} {w : World} (hP : K.Rd w A 1 eG pts) (hN : K.Rd w B 5 eO nts) (g : GoodS iv pts nts) (hA : (allB iv nts 0 nts.length).2 = true) :
  Calls Tryz.prog 23 [.agg #[.int .i64 iv, .slice A pts.length c, .slice B nts.length d]].toArray w (K.Gives (.tuple #[.bool true, .int .i64 0]) w) := by
 have hcl := all_c (wd := 0) g (Nat.le_refl _)
 refine K.enter (args := [.agg #[.int .i64 iv, .slice A pts.length c, .slice B nts.length d]]) Tryz.func23 rfl (n := 26) rfl ?_
 refine zR ?_
 refine sr ?_
 refine qn (K.box) fun b1 => ?_
 iterate 2 refine qa ?_
 refine sn (sr (ql (K.jA ag_25 rfl (K.m0) rfl) ?_))
 refine qc (K.nA cal_46 (fun F w hF hw => c46y (hP.pass hw) (hN.pass hw) g hA)) ?_
 refine qm ?_
 iterate 2 refine qx ?_
 refine qn (alloc_mx zr_94m) fun b4 => ?_
 refine qt (K.store_mx sz_94 rfl rfl (mx_len hcl.n) (mx_len zM_len) K.mI_one (K.rp0)) ?_
 refine zN ?_
 refine qa ?_
 refine sn (K.seq (sr (qm ?_)))
 refine qp (K.Pure.eq (K.eql rfl rfl) (show _ = Value.bool false from rfl)) ?_
 refine sn (K.oA rfl ?_)
 refine K.skip (K.dA (sr (qm ?_)))
 refine qp (K.eql rfl rfl) ?_
 refine qm ?_
 iterate 2 refine qa ?_
 refine sn (K.ret ?_)
 refine K.wA (fun w _ => K.qB rfl w) ?_
 exact K.gives rfl

set_option maxRecDepth 100000 in
theorem c23n {iv : Int} {pts : List ByteArray} {nts : List NtT} {A B : Option Addr} {c d : Nat} {w : World} (hP : K.Rd w A 1 eG pts) (hN : K.Rd w B 5 eO nts) (g : GoodS iv pts nts) (hA : (allB iv nts 0 nts.length).2 = false) :
  Calls Tryz.prog 23 [.agg #[.int .i64 iv, .slice A pts.length c, .slice B nts.length d]].toArray w (K.Gives (.tuple #[.bool false, .int .i64 0]) w) := by
 have hcl := all_c (wd := 0) g (Nat.le_refl _)
 refine K.enter (args := [.agg #[.int .i64 iv, .slice A pts.length c, .slice B nts.length d]]) Tryz.func23 rfl (n := 26) rfl ?_
 refine zR ?_
 refine sr ?_
 refine qn (K.box) fun b1 => ?_
 iterate 2 refine qa ?_
 refine sn (sr (ql (K.jA ag_25 rfl (K.m0) rfl) ?_))
 refine qc (K.nA cal_46 (fun F w hF hw => c46n (hP.pass hw) (hN.pass hw) g hA)) ?_
 refine qm ?_
 iterate 2 refine qx ?_
 refine qn (alloc_mx zr_94m) fun b4 => ?_
 refine qt (K.store_mx sz_94 rfl rfl (mx_len hcl.n) (mx_len zM_len) K.mI_one (K.rp0)) ?_
 refine zN ?_
 refine qa ?_
 refine sn (K.seq (sr (qm ?_)))
 refine qp (K.Pure.eq (K.eql rfl rfl) (show _ = Value.bool true from rfl)) ?_
 refine sn (K.yA rfl ?_)
 refine sr (ql (K.jA ag_25 rfl (K.m1) rfl) ?_)
 refine qc (K.nA cal_58 (fun F w hF hw => c58 (hP.pass hw) (hN.pass hw) g)) ?_
 refine qm ?_
 iterate 3 refine qx ?_
 iterate 3 refine qa ?_
 refine sn (sr (qm ?_))
 refine qp (K.Pure.eq (K.eql rfl rfl) (show _ = Value.bool true from rfl)) ?_
 refine sn (K.yA rfl ?_)
 refine sr ?_
 iterate 2 refine qa ?_
 refine sn (K.ret (K.iA ?_))
 refine K.wA (fun w _ => K.qB rfl w) ?_
 exact K.gives rfl

end Go.Proofs.YtnhhfkgldoeifaaGreatDoor.Sh
end
section
namespace Go.Proofs.YtnhhfkgldoeifaaGreatDoor.Sh
open Go
section
open Go.RowKit
variable {P : Program} {w0 : World} {L L' : List K.Chunk} {Q : Exit → Act → World → Prop} {l : List Value} {ops : Array Oper} {rest : List Oper} {o : Oper} {v : Value} {d : Option Tmp} {ty : TypeId} {ps : String} {af : Array Edge} {g : Option (Nat × Bool)} {A : Prop} {x : Operand} {id i : Nat}
variable {C : List K.Chunk} {bl : List Nat} {fuel : Nat} {listed : Array Bool}
theorem dP (i : Nat) (ho : K.nthP ops.toList i = some o) (h : K.Pure P o l v) (k : A) (ht : K.takeB ops listed i = true := by as_aux_lemma => kernel_rfl) (hg : K.wantL ops.toList l o.guard = true := by exact rfl) (e : K.DHold P w0 ops Q C bl fuel (listed.setIfInBounds i true) (K.setd l o.dst v) L = A := by first | (dsimp only [K.setd, K.setn, K.ev, K.nth] <;> rfl) | rfl) : K.DHold P w0 ops Q C bl (fuel + 1) listed l L := K.d_pure i ho h ht hg (e ▸ k)
theorem dD (k : K.Hold w0 L (Q .normal (K.fr l))) (hr : Region.ready .any ops listed = [] := by as_aux_lemma => kernel_rfl) : K.DHold P w0 ops Q C bl fuel listed l L := K.d_done hr k
end
end Go.Proofs.YtnhhfkgldoeifaaGreatDoor.Sh
end
section
namespace Go.K
open Go.RowKit
section
variable {P : Program} {w0 : World} {L A : List Chunk} {ops : Array Oper} {Q : Exit → Act → World → Prop} {l : List Value} {d : Option Tmp} {ty : TypeId} {ps : String} {af : Array Edge} {g : Option (Nat × Bool)}
theorem slice_s_hi {t : TypeId} {x y : Operand} {s : ByteArray} {k : IntKind} {z : Int} (m : Nat) (ht : sT P t = true) (hx : ev l x = .string s) (hy : ev l y = .int k z) (hz : z = (m : Int)) (h1 : m ≤ s.size) :
  Pure P ⟨d, .slice t x none (some y) none, ty, ps, af, g⟩ l (.string (s.extract 0 m)) := fun w => by
 subst hz
 have hu := run_underlying (sT_spec ht) w
 simp [execOp, hx, hy, run_sliceAt_string w t _ _ _ _ (sT_spec ht), Instr.slice, Instr.sliceBounds, Instr.sliceBound, asIntOf, Sem.run_bind, hu, h1]
theorem slice_s_lo {t : TypeId} {x y : Operand} {s : ByteArray} {k : IntKind} {z : Int} (m : Nat) (ht : sT P t = true) (hx : ev l x = .string s) (hy : ev l y = .int k z) (hz : z = (m : Int)) (h1 : m ≤ s.size) :
  Pure P ⟨d, .slice t x (some y) none none, ty, ps, af, g⟩ l (.string (s.extract m s.size)) := fun w => by
 subst hz
 have hu := run_underlying (sT_spec ht) w
 simp [execOp, hx, hy, run_sliceAt_string w t _ _ _ _ (sT_spec ht), Instr.slice, Instr.sliceBounds, Instr.sliceBound, asIntOf, Sem.run_bind, hu, h1]
theorem eql_nn {t yt : TypeId} {x y : Operand} (h : P.underlying t = some (.interface (P.methodsAt t))) (hx : ev l x = .nilIface) (hy : y = .const .nilIface) : Pure P ⟨d, .binOp .eql t x y yt, ty, ps, af, g⟩ l (.bool true) := fun w => by
 subst hy
 have hc : ev l (.const .nilIface) = .nilIface := rfl
 simp only [execOp, hx, hc, eqGuard_nil_constR, run_eql_nil_nil w t h, Sem.run_bind, Sem.run_pure, Result.andThen_ok]
end
end Go.K
namespace Go.R
open Go.RowKit Go.K
section
variable {P : Program} {w0 : World} {L A : List Chunk} {ops : Array Oper} {Q : Exit → Act → World → Prop} {l : List Value} {d : Option Tmp} {ty : TypeId} {ps : String} {af : Array Edge} {g : Option (Nat × Bool)}
theorem d_old {t n b i ix fuel : Nat} {e : TypeId} {x y : Operand} {cs : List Value} {bl : List Nat} {listed : Array Bool} (ho : nthP ops.toList ix = some ⟨d, .store t x y, ty, ps, af, g⟩) (hn : sz P t = some n) (hx : ev l x = .pointer (some ⟨b, i, none⟩)) (hlen : (cl (ev l y)).length = n) (hfit : i + n ≤ cs.length)
  (h1 : (cl (ev l y)).all Value.oneCell' = true) (hB : bl.contains ix = true) (hr : Region.ready .any ops listed = [ix]) (hr2 : Region.ready .any ops (listed.setIfInBounds ix true) = []) (hg : wantL ops.toList l g = true) (hd : d = none) (hh : ∀ w, St w0 L w → w.heap[b]? = some (.cells cs.toArray e (0, 0)))
  (k : ∀ w w', St w0 L w → w'.heap[b]? = some (.cells (over cs i (cl (ev l y))).toArray e (0, 0)) → (∀ i, i ≠ b → w'.heap[i]? = w.heap[i]?) → (∀ B, BelowX B b w w') → DHold P w' ops Q A bl fuel (listed.setIfInBounds ix true) l []) :
  DHold P w0 ops Q A bl (fuel + 1) listed l L :=
 K.d_op (R := fun w v w' => w' = w.setRow b (over cs i (cl (ev l y))).toArray) ix ho hr hg (fun w hw => store_old hn hx hlen hfit h1 (hh w hw)) (fun _ _ _ _ _ => .inl hB) (fun w hw v w' hR => by
  subst hR; subst hd
  have hgr := grownBy_setRow w b (over cs i (cl (ev l y))).toArray
  have hne : ∀ j, j ≠ b → (w.setRow b (over cs i (cl (ev l y))).toArray).heap[j]? = w.heap[j]? := fun j hj => by
   simp only [World.setRow, Array.getElem?_modify]
   rw [if_neg (fun e => hj e.symm)]
  have hq := k w _ hw (setRow_heap w b cs.toArray _ e (0, 0) (hh w hw)) hne (fun B => ⟨hgr.os, hgr.tape, hgr.output, hgr.size, fun j _ hj => hne j hj⟩) _ (St.start _)
  cases fuel with
  | zero => exact ⟨hr2, hq.2⟩
  | succ m => exact ⟨fun _ => hq.1 hr2, fun j hj => by rw [hr2] at hj; cases hj⟩)
end
section
variable {r : Option Nat} {n : Nat} {P : Program} {w0 : World} {L : List Chunk} {D : List Deferred} {ops : Array Oper} {Q : Exit → Act → World → Prop} {rest : List Oper} {l : List Value}
theorem lseq_defer {ty : TypeId} {ps : String} {af : Array Edge} {g : Option (Nat × Bool)} {x : Operand} {args : List Operand} {fv : Fn} {first cap : List Value} {ts : Array TypeId} (hx : ev l x = .func fv first.toArray cap.toArray) (hg : wantL ops.toList l g = true)
  (k : Hold w0 L (wpListIn (fen none) n P ops Q rest (frd ({ target := .fn fv cap.toArray, args := (first ++ args.map (ev l)).toArray } :: D) l))) :
  Hold w0 L (wpListIn (fen none) n P ops Q (⟨none, .defer { callee := .value x, args := args.toArray, argTypes := ts }, ty, ps, af, g⟩ :: rest) (frd D l)) := by
 intro w hw
 unfold wpListIn
 have hy : Region.wanted ⟨none, .defer { callee := .value x, args := args.toArray, argTypes := ts }, ty, ps, af, g⟩ (yielded ops (frd D l).tmps) = wantL ops.toList l g := wanted_eq ops l _
 rw [if_pos (by rw [hy]; exact hg)]
 refine ⟨fun _ _ => trivial, ?_⟩
 have hs : (⟨none, .defer { callee := .value x, args := args.toArray, argTypes := ts }, ty, ps, af, g⟩ : Oper).semAt (fen none).round (frd D l).eval = execOp (ev l) ⟨none, .defer { callee := .value x, args := args.toArray, argTypes := ts }, ty, ps, af, g⟩ := by
  rw [frd_eval]; rfl
 rw [hs]
 have hexec : (execOp (ev l) ⟨none, .defer { callee := .value x, args := args.toArray, argTypes := ts }, ty, ps, af, g⟩).run P w = .ok (.defer { target := .fn fv cap.toArray, args := (first ++ args.map (ev l)).toArray }) w := by
  have e2 : first.toArray ++ args.toArray.map (ev l) = (first ++ args.map (ev l)).toArray := by apply Array.toList_inj.1; simp
  simp only [execOp, resolve, hx, Deferred.ofValue, Sem.run_bind, Sem.run_pure, Result.andThen_ok, e2]
 rw [hexec]
 exact k w hw
end
section
variable {P : Program} {w0 : World} {L : List Chunk} {l : List Value} {R : Ending → World → Prop} {fn : Func} {v : Value} {b : Nat}
theorem end_retR {L' : List Chunk} {d : Deferred} {f : FuncId} {args : Array Value} {fv : Fn} {cap : Array Value} (hL : L' = L'.dropLast ++ [dfr b]) (ht : d.target = .fn fv cap) (hi : ∀ w, (invoke d.target d.args).run P w = .ok (.enter f args) w)
  (hc : ∀ w, CallsDIn (fen none) 0 P f args .returning w (fun e u' w' => e = .returned (.tuple #[]) ∧ u' = .returning ∧ w' = w)) (hr : ∀ w, St w0 L'.dropLast w → (results fn l.toArray).run P w = .ok v w) (k : Hold w0 L'.dropLast (R (.returned v))) :
  Hold w0 L' (bodyPostM (fen none) 0 P fn R .ret (frd [mark b, d] l)) := by
 rw [hL]
 intro w hw
 have h1 : w.heap[b]? = some (.deferred (some [])) := (st_front hw).2.1
 have h2 := st_front (st_put (E' := nul) (o := .deferred none) hw (b := b) rfl trivial (fun _ h => h.elim))
 refine ⟨by simp, .inl ⟨b, _, rfl, run_takeDeferred h1, by simp, .inr ⟨fun h => (by cases h), fv, cap, f, args, ht, hi _, fun _ _ => trivial, (hc _).mono ?_⟩⟩⟩
 rintro e u' w' ⟨rfl, rfl, rfl⟩
 exact ⟨v, hr _ h2.1, k _ h2.1⟩
end
end Go.R
end
section
namespace Go.K
open Go.RowKit
theorem d_norm {P : Program} {w0 : World} {ops : Array Oper} {Q : Exit → Act → World → Prop} {A : List Chunk} {bl : List Nat} {fuel : Nat} {listed : Array Bool} {l : List Value} {L : List Chunk} (listed' : Array Bool) (h : listed = listed') (k : DHold P w0 ops Q A bl fuel listed' l L) : DHold P w0 ops Q A bl fuel listed l L := h ▸ k
end Go.K
end
section
namespace Go.Proofs.YtnhhfkgldoeifaaGreatDoor.Sh
open Go
def hq (b : List Int) (i : Nat) : Nat → Bool × List Int
 | 0 => (true, b)
 | k + 1 => if (hq b i k).1 then ((bind1 (hq b i k).2 i k 0).isSome, (bind1 (hq b i k).2 i k 0).getD (hq b i k).2) else hq b i k
theorem hq_y {b : List Int} {i k : Nat} (h : (hq b i k).1 = true) : hq b i (k + 1) = ((bind1 (hq b i k).2 i k 0).isSome, (bind1 (hq b i k).2 i k 0).getD (hq b i k).2) := by
 conv => lhs; unfold hq
 rw [if_pos h]
theorem hq_n {b : List Int} {i k : Nat} (h : (hq b i k).1 = false) : hq b i (k + 1) = hq b i k := by
 conv => lhs; unfold hq
 rw [if_neg (by rw [h]; decide)]
theorem hq_cl {b : List Int} {i : Nat} (c : Cl b) (hi : i < 9) : ∀ k, k ≤ 9 → Cl (hq b i k).2
 | 0, _ => c
 | k + 1, hk => by
  have ih := hq_cl c hi k (by omega)
  rcases Bool.eq_false_or_eq_true (hq b i k).1 with h | h
  ·rw [hq_y h]
   cases e : bind1 (hq b i k).2 i k 0 with
   | none => exact ih
   | some z => exact bind1_cl ih hi (by omega) e
  ·rw [hq_n h]; exact ih
def hiL (b : List Int) (n : Nat) : Nat → List Int
 | 0 => []
 | i + 1 => if (hq b i n).1 then hiL b n i ++ [(i : Int)] else hiL b n i
theorem hi_y {b : List Int} {n i : Nat} (h : (hq b i n).1 = true) : hiL b n (i + 1) = hiL b n i ++ [(i : Int)] := by
 conv => lhs; unfold hiL
 rw [if_pos h]
theorem hi_n {b : List Int} {n i : Nat} (h : (hq b i n).1 = false) : hiL b n (i + 1) = hiL b n i := by
 conv => lhs; unfold hiL
 rw [if_neg (by rw [h]; decide)]
theorem hi_len {b : List Int} {n : Nat} : ∀ i, (hiL b n i).length ≤ i
 | 0 => Nat.le_refl _
 | i + 1 => by
  have ih := hi_len (b := b) (n := n) i
  unfold hiL
  split
  ·rw [List.length_append]; show _ + 1 ≤ _; omega
  ·omega
end Go.Proofs.YtnhhfkgldoeifaaGreatDoor.Sh
end
section
namespace Go.Proofs.YtnhhfkgldoeifaaGreatDoor.Sh
open Go.RowKit Go
open Go.K (setd setn ev nth over cl eI eP eT setM setF)
attribute [local irreducible] K.blk K.row
def ptsS : List ByteArray := [{ data := #[116, 111, 114] }, { data := #[109, 101, 114, 101] }, { data := #[102, 111, 114, 100] }, { data := #[100, 97, 109] }]
theorem bsS : K.Bs Tryz.prog 22 4 [(0, .string { data := #[116, 111, 114] }), (1, .string { data := #[109, 101, 114, 101] }), (2, .string { data := #[102, 111, 114, 100] }), (3, .string { data := #[100, 97, 109] })] 9 (ptsS.flatMap eG) := fun w => by kernel_rfl
theorem bs23_4 : K.Bs Tryz.prog 23 4 [(0, .agg #[.int .i64 (1), .int .i64 (0), .int .i64 (0), .int .i64 (1180), .int .i64 (1200)]), (1, .agg #[.int .i64 (2), .int .i64 (1), .int .i64 (0), .int .i64 (9), .int .i64 (10)]), (2, .agg #[.int .i64 (3), .int .i64 (3), .int .i64 (1), .int .i64 (0), .int .i64 (0)]), (3, .agg #[.int .i64 (4), .int .i64 (0), .int .i64 (2), .int .i64 (250), .int .i64 (300)])] 58 (ntsS.flatMap eO) := fun w => by kernel_rfl
theorem oneO (zs : List NtT) : (zs.flatMap eO).all Value.oneCell' = true := by
 rw [List.all_eq_true]
 intro v hv
 obtain ⟨x, _, h⟩ := List.mem_flatMap.1 hv
 simp only [eO, List.mem_cons, List.not_mem_nil, or_false] at h
 rcases h with h | h | h | h | h <;> (subst h; rfl)
theorem bl25s (b : Nat) (A : Option Addr) (n c : Nat) : K.Bl Tryz.prog 25 [(0, .int .i64 100), (1, .slice (some ⟨b, 0, none⟩) 4 4), (2, .slice A n c)] (.agg #[.int .i64 100, .slice (some ⟨b, 0, none⟩) 4 4, .slice A n c]) := fun w => by kernel_rfl
theorem good_S : GoodS 100 ptsS ntsS := chkS_good (by decide +kernel)
theorem good_T : GoodS 100 ptsS ntsT := chkS_good (by decide +kernel)
theorem good_B : GoodS 100 ptsS ntsB := chkS_good (by decide +kernel)

set_option maxRecDepth 100000 in
theorem c21 (w : World) :
  Calls Tryz.prog 21 [].toArray w (K.Ret (fun _ : Nat => True) (fun b => .slice (some ⟨b, 0, none⟩) 1 1) (fun b => [K.blk b 58 [.int .i64 (4), .int .i64 (1), .int .i64 (2), .int .i64 (-40), .int .i64 (-10)]]) w) := by
 refine K.enter (args := []) Tryz.func21 rfl (n := 3) rfl ?_
 refine zR ?_
 refine sr (qa ?_)
 refine sn (sr (qc (K.nA cal_57 (fun F w hF hw => c57 w)) ?_))
 refine qn (K.buildSlice (bs23 _ _ _ _ _)) fun b2 => ?_
 refine qa ?_
 refine sn (K.ret (et ?_))
 exact K.rets_v b2 trivial rfl rfl Kq.s0

set_option maxRecDepth 100000 in
theorem c22 (w : World) :
  Calls Tryz.prog 22 [].toArray w (K.Ret (fun _ : Nat => True) (fun b => .slice (some ⟨b, 0, none⟩) 1 1) (fun b => [K.blk b 58 [.int .i64 (4), .int .i64 (1), .int .i64 (0), .int .i64 (0), .int .i64 (10)]]) w) := by
 refine K.enter (args := []) Tryz.func22 rfl (n := 3) rfl ?_
 refine zR ?_
 refine sr (qa ?_)
 refine sn (sr (qc (K.nA cal_57 (fun F w hF hw => c57 w)) ?_))
 refine qn (K.buildSlice (bs23 _ _ _ _ _)) fun b2 => ?_
 refine qa ?_
 refine sn (K.ret (et ?_))
 exact K.rets_v b2 trivial rfl rfl Kq.s0

set_option maxRecDepth 100000 in
theorem c20 {Z : Option Addr} {cz : Nat} {zs : List NtT} {w : World} (hZ : K.Rd w Z 5 eO zs) (hzl : zs.length ≤ 1) :
  Calls Tryz.prog 20 [.slice Z zs.length cz].toArray w (K.Ret (fun _ : Nat × Option Addr × Nat => True) (fun r => .agg #[.int .i64 100, .slice (some ⟨r.1, 0, none⟩) 4 4, .slice r.2.1 (4 + zs.length) r.2.2]) (fun r => [K.row (.slice r.2.1 (4 + zs.length) r.2.2) 58 5 (4 + zs.length) (ntsS.flatMap eO ++ zs.flatMap eO), K.blk r.1 9 (ptsS.flatMap eG)]) w) := by
 refine K.enter (args := [.slice Z zs.length cz]) Tryz.func20 rfl (n := 11) rfl ?_
 refine zR ?_
 refine sr ?_
 refine qn (K.alloc zr_25) fun b2 => ?_
 refine sn (sr ?_)
 refine qn (K.buildSlice (bsS)) fun b3 => ?_
 refine qc (K.nA cal_57 (fun F w hF hw => c57 w)) ?_
 refine qc (K.nA cal_57 (fun F w hF hw => c57 w)) ?_
 refine qc (K.nA cal_57 (fun F w hF hw => c57 w)) ?_
 refine qc (K.nA cal_57 (fun F w hF hw => c57 w)) ?_
 refine qn (K.buildSlice (bs23_4)) fun b8 => ?_
 refine K.blk_row (n := 4) (size := 5) rfl (by decide) ?_
 refine zN ?_
 refine qm ?_
 refine K.xB (K.appendS el_23 rfl rfl hZ.sl (fun _ => rfl) (oneO _) (by omega) (by omega) (fun _ _ => K.rp0)) rfl ?_
 rintro ⟨A10, c10⟩ _
 refine zN ?_
 refine K.mA (K.build (bl25s _ _ _ _)) rfl ?_
 refine zN ?_
 refine qt (K.vA sz_25 rfl rfl rfl rfl (K.rp2)) ?_
 refine sn (K.ret ?_)
 refine K.wA (fun w hw => K.res_c rfl rfl (K.run_cellA ag_25 rfl (K.m2) rfl w hw)) ?_
 exact K.rets (b3, A10, c10) trivial rfl (Kq.sc (Kq.sc (List.nil_sublist _)))

end Go.Proofs.YtnhhfkgldoeifaaGreatDoor.Sh
end
section
namespace Go.Proofs.YtnhhfkgldoeifaaGreatDoor.Sh
open Go.RowKit Go
open Go.K (setd setn ev nth over cl eI eP eT setM setF)
attribute [local irreducible] K.blk K.row
def textS : ByteArray := ⟨#[115, 104, 101, 101, 116, 32, 49, 48, 48, 10, 112, 111, 105, 110, 116, 32, 116, 111, 114, 10, 112, 111, 105, 110, 116, 32, 109, 101, 114, 101, 10, 112, 111, 105, 110, 116, 32, 102, 111, 114, 100, 10, 112, 111, 105, 110, 116, 32, 100, 97, 109, 10, 115, 112, 111, 116, 32, 116, 111, 114, 32, 49, 49, 56, 48, 32, 49, 50, 48, 48, 10, 99, 111, 110, 116, 111, 117, 114, 32, 109, 101, 114, 101, 32, 57, 32, 49, 48, 10, 108, 97, 107, 101, 32, 100, 97, 109, 32, 109, 101, 114, 101, 10, 115, 108, 111, 112, 101, 32, 116, 111, 114, 32, 102, 111, 114, 100, 32, 50, 53, 48, 32, 51, 48, 48, 10]⟩

set_option maxRecDepth 100000 in
theorem c31 (w : World) :
  Calls Tryz.prog 31 [].toArray w (K.Gives (.string textS) w) := by
 refine K.enter (args := []) Tryz.func31 rfl (n := 1) rfl ?_
 refine zR ?_
 refine sr (qa ?_)
 refine sn (sr (qa ?_))
 refine sn (K.ret (et ?_))
 exact K.gives (by kernel_rfl)

set_option maxRecDepth 100000 in
theorem c70 (w : World) :
  Calls Tryz.prog 70 [.bool true].toArray w (K.Gives (.tuple #[]) w) := by
 refine K.enter (args := [.bool true]) Tryz.func70 rfl (n := 4) rfl ?_
 refine zR ?_
 refine sr (qm ?_)
 first | refine K.mA (K.Pure.eq (K.fC rfl) (show _ = Value.bool false from rfl)) rfl ?_ | refine K.mA (K.Pure.eq (K.not_ rfl) (show _ = Value.bool false from rfl)) rfl ?_
 refine zN ?_
 refine sn (K.oA rfl ?_)
 refine K.skip ?_
 refine K.end_normal (fun w _ => K.rB rfl w) ?_
 exact K.gives rfl

end Go.Proofs.YtnhhfkgldoeifaaGreatDoor.Sh
end
section
namespace Go.Proofs.YtnhhfkgldoeifaaGreatDoor.Sh
open Go Go.RowKit
def spL (s : ByteArray) : List ByteArray := Lib.splitB ⟨#[32]⟩ 0 (Lib.countB s ⟨#[32]⟩) s
set_option maxRecDepth 100000 in
theorem c110 {s : ByteArray} {w : World} (hs : s.size < 4294967281) : Calls Tryz.prog 110 [.string s, .string ⟨#[32]⟩, .int .i64 0, .int .i64 (-1)].toArray w (K.Ret (fun _ : Nat => True) (fun b => .slice (some ⟨b, 0, none⟩) (spL s).length (spL s).length) (fun b => [K.blk b 9 ((spL s).flatMap eG)]) w) := by
 have hle := Lib.countB_le ⟨#[32]⟩ (by decide) s.size s (Nat.le_refl _)
 have hlen := Lib.splitB_all ⟨#[32]⟩ (by decide) 0 _ s rfl
 have hC : Calls Tryz.prog 133 #[.string s, .string ⟨#[32]⟩] w fun e w' => e = .returned (.int .i64 (Lib.countB s ⟨#[32]⟩)) ∧ w' = w := by
  refine (show Calls Tryz.prog 133 #[.string s, .string ⟨#[32]⟩] w _ from Any.strings_Count_one Tryz.lays138 s 32 w).mono fun e w' ⟨he, hw⟩ => ⟨?_, hw⟩
  rw [he]
  show _ = Ending.returned (Value.int .i64 ((Lib.count s.data.toList [32] : Nat) : Int))
  rw [Lib.count_one]; rfl
 have c := Any.strings_genSplit_core Tryz.lays221 (by kernel_rfl) s ⟨#[32]⟩ 0 (-1) (Lib.countB s ⟨#[32]⟩ + 1) w hs (by decide) (Nat.zero_le _)
  (fun x c _ => by
   refine (show Calls Tryz.prog 134 #[.string x, .string ⟨#[32]⟩] (w.alloc (.cells c 9)) _ from Any.strings_Index_one Tryz.lays143 x 32 _).mono fun e w' ⟨he, hw⟩ => ⟨?_, hw⟩
   rw [he]
   show _ = Ending.returned (Value.int .i64 (Lib.index x.data.toList [32]))
   rw [Lib.index_one])
  hC (by decide) (by decide) (by rw [if_pos (by decide)]; omega)
 rw [Nat.add_sub_cancel, hlen] at c
 refine (show Calls Tryz.prog 110 #[.string s, .string ⟨#[32]⟩, .int .i64 0, .int .i64 (-1)] w _ from c).mono fun e w' ⟨he, hw⟩ => ⟨w.heap.size, trivial, ?_, ?_⟩
 ·rw [he]
  show _ = Ending.returned (Value.slice _ (spL s).length (spL s).length)
  unfold spL; rw [hlen]
 ·have e2 : Lib.cellsOf (Lib.splitB ⟨#[32]⟩ 0 (Lib.countB s ⟨#[32]⟩) s) (Lib.countB s ⟨#[32]⟩ + 1) = ((spL s).map Value.string).toArray := by rw [← hlen]; exact Lib.cellsOf_full _
  have e3 : (spL s).map Value.string = (spL s).flatMap eG := by
   generalize spL s = l
   induction l with
   | nil => rfl
   | cons x l ih => rw [List.map_cons, List.flatMap_cons, ih]; rfl
  rw [e2, e3] at hw
  subst hw
  exact (K.St.start w).new 9 ((spL s).flatMap eG)
end Go.Proofs.YtnhhfkgldoeifaaGreatDoor.Sh
end
section
namespace Go.Proofs.YtnhhfkgldoeifaaGreatDoor.Sh
open Go
def rst (XS : List (List UInt8)) (k : Nat) : List UInt8 := (XS.drop k).flatten
def LnOk (XS : List (List UInt8)) : Prop := ∀ k, k < XS.length → Lib.indexByte (rst XS k) 10 + 1 = ((XS.getD k default).length : Int) ∧ 1 ≤ (XS.getD k default).length ∧ (XS.getD k default).length ≤ 1000
section
variable {XS : List (List UInt8)} {k : Nat}
theorem rst_s (h : k < XS.length) : rst XS k = XS.getD k default ++ rst XS (k + 1) := by
 unfold rst
 rw [List.drop_eq_getElem_cons h, List.flatten_cons, List.getD_eq_getElem?_getD, List.getElem?_eq_getElem h]; rfl
theorem rst_end (h : XS.length ≤ k) : rst XS k = [] := by unfold rst; rw [List.drop_eq_nil_of_le h]; rfl
theorem bS_size {l : List UInt8} : (bS l).size = l.length := by simp [bS, ByteArray.size]
theorem cut_hi {a c : List UInt8} : (bS (a ++ c)).extract 0 a.length = bS a := by
 apply ByteArray.ext
 rw [ByteArray.data_extract]
 simp [bS]
theorem cut_lo {a c : List UInt8} : (bS (a ++ c)).extract a.length (bS (a ++ c)).size = bS c := by
 apply ByteArray.ext
 rw [ByteArray.data_extract, bS_size]
 simp [bS]
end
end Go.Proofs.YtnhhfkgldoeifaaGreatDoor.Sh
end
section
namespace Go.Proofs.YtnhhfkgldoeifaaGreatDoor.Sh
open Go
def LNS : List (List UInt8) := [[115, 104, 101, 101, 116, 32, 49, 48, 48, 10], [112, 111, 105, 110, 116, 32, 116, 111, 114, 10], [112, 111, 105, 110, 116, 32, 109, 101, 114, 101, 10], [112, 111, 105, 110, 116, 32, 102, 111, 114, 100, 10], [112, 111, 105, 110, 116, 32, 100, 97, 109, 10], [115, 112, 111, 116, 32, 116, 111, 114, 32, 49, 49, 56, 48, 32, 49, 50, 48, 48, 10], [99, 111, 110, 116, 111, 117, 114, 32, 109, 101, 114, 101, 32, 57, 32, 49, 48, 10], [108, 97, 107, 101, 32, 100, 97, 109, 32, 109, 101, 114, 101, 10], [115, 108, 111, 112, 101, 32, 116, 111, 114, 32, 102, 111, 114, 100, 32, 50, 53, 48, 32, 51, 48, 48, 10]]
theorem lns_len : LNS.length = 9 := rfl
theorem lns_all : ∀ k : Fin 9, Lib.indexByte (rst LNS k) 10 + 1 = ((LNS.getD k default).length : Int) ∧ 1 ≤ (LNS.getD k default).length ∧ (LNS.getD k default).length ≤ 1000 := by decide +kernel
theorem lns_ok : LnOk LNS := fun k hk => lns_all ⟨k, hk⟩
theorem dd_lo {u : Nat} (h : u < 10) : Lib.decDigits u = [UInt8.ofNat (48 + u)] := by rw [Lib.decDigits, dif_pos h]
theorem dd_hi {u : Nat} (h : ¬ u < 10) : Lib.decDigits u = Lib.decDigits (u / 10) ++ [UInt8.ofNat (48 + u % 10)] := by
 conv => lhs; rw [Lib.decDigits, dif_neg h]
theorem it_100 : Lib.itoa 100 = [49, 48, 48] := by
 show Lib.decDigits 100 = _
 rw [dd_hi (u := 100) (by decide), show 100 / 10 = 10 from rfl]
 rw [dd_hi (u := 10) (by decide), show 10 / 10 = 1 from rfl]
 rw [dd_lo (u := 1) (by decide)]; rfl
theorem it_1180 : Lib.itoa 1180 = [49, 49, 56, 48] := by
 show Lib.decDigits 1180 = _
 rw [dd_hi (u := 1180) (by decide), show 1180 / 10 = 118 from rfl]
 rw [dd_hi (u := 118) (by decide), show 118 / 10 = 11 from rfl]
 rw [dd_hi (u := 11) (by decide), show 11 / 10 = 1 from rfl]
 rw [dd_lo (u := 1) (by decide)]; rfl
theorem it_1200 : Lib.itoa 1200 = [49, 50, 48, 48] := by
 show Lib.decDigits 1200 = _
 rw [dd_hi (u := 1200) (by decide), show 1200 / 10 = 120 from rfl]
 rw [dd_hi (u := 120) (by decide), show 120 / 10 = 12 from rfl]
 rw [dd_hi (u := 12) (by decide), show 12 / 10 = 1 from rfl]
 rw [dd_lo (u := 1) (by decide)]; rfl
theorem it_9 : Lib.itoa 9 = [57] := by
 show Lib.decDigits 9 = _
 rw [dd_lo (by decide)]; rfl
theorem it_10 : Lib.itoa 10 = [49, 48] := by
 show Lib.decDigits 10 = _
 rw [dd_hi (u := 10) (by decide), show 10 / 10 = 1 from rfl]
 rw [dd_lo (u := 1) (by decide)]; rfl
theorem it_250 : Lib.itoa 250 = [50, 53, 48] := by
 show Lib.decDigits 250 = _
 rw [dd_hi (u := 250) (by decide), show 250 / 10 = 25 from rfl]
 rw [dd_hi (u := 25) (by decide), show 25 / 10 = 2 from rfl]
 rw [dd_lo (u := 2) (by decide)]; rfl
theorem it_300 : Lib.itoa 300 = [51, 48, 48] := by
 show Lib.decDigits 300 = _
 rw [dd_hi (u := 300) (by decide), show 300 / 10 = 30 from rfl]
 rw [dd_hi (u := 30) (by decide), show 30 / 10 = 3 from rfl]
 rw [dd_lo (u := 3) (by decide)]; rfl
theorem tx_S : bS (txS 100 ptsS ntsS) = textS := by
 unfold txS txN txP ntW ptsS ntsS
 simp only [List.length_cons, List.length_nil, List.take_succ_cons, List.take_zero, List.flatMap_cons, List.flatMap_nil, it_100]
 simp only [show ¬ ((2 : Int) = 1) by decide, show ¬ ((3 : Int) = 1) by decide, show ¬ ((3 : Int) = 2) by decide, show ¬ ((4 : Int) = 1) by decide, show ¬ ((4 : Int) = 2) by decide, show ¬ ((4 : Int) = 3) by decide, if_true, if_false, it_1180, it_1200, it_9, it_10, it_250, it_300]
 decide +kernel
structure StT where
 iv : Int
 pts : List ByteArray
 nts : List NtT
inductive Tk : StT → List ByteArray → StT → Prop
 | sheet (s : StT) (x : ByteArray) (n : Int) (hx : x.size ≤ 18 ∧ Lib.atoi x.data.toList = some n) : Tk s [bS [115, 104, 101, 101, 116], x] ⟨n, s.pts, s.nts⟩
 | point (s : StT) (x : ByteArray) : Tk s [bS [112, 111, 105, 110, 116], x] ⟨s.iv, s.pts ++ [x], s.nts⟩
 | lake (s : StT) (x y : ByteArray) (a b : Nat) (h0 : 1 ≤ s.pts.length) (ha : Lib.idxOfS s.pts x = (a : Int)) (hb : Lib.idxOfS s.pts y = (b : Int)) : Tk s [bS [108, 97, 107, 101], x, y] ⟨s.iv, s.pts, s.nts ++ [⟨3, (a : Int), (b : Int), 0, 0⟩]⟩
 | spot (s : StT) (x u v : ByteArray) (a : Nat) (l h : Int) (h0 : 1 ≤ s.pts.length) (ha : Lib.idxOfS s.pts x = (a : Int)) (hu : u.size ≤ 18 ∧ Lib.atoi u.data.toList = some l) (hv : v.size ≤ 18 ∧ Lib.atoi v.data.toList = some h) : Tk s [bS [115, 112, 111, 116], x, u, v] ⟨s.iv, s.pts, s.nts ++ [⟨1, (a : Int), 0, l, h⟩]⟩
 | contour (s : StT) (x u v : ByteArray) (a : Nat) (l h : Int) (h0 : 1 ≤ s.pts.length) (ha : Lib.idxOfS s.pts x = (a : Int)) (hu : u.size ≤ 18 ∧ Lib.atoi u.data.toList = some l) (hv : v.size ≤ 18 ∧ Lib.atoi v.data.toList = some h) : Tk s [bS [99, 111, 110, 116, 111, 117, 114], x, u, v] ⟨s.iv, s.pts, s.nts ++ [⟨2, (a : Int), 0, l, h⟩]⟩
 | slope (s : StT) (x y u v : ByteArray) (a b : Nat) (l h : Int) (h0 : 1 ≤ s.pts.length) (ha : Lib.idxOfS s.pts x = (a : Int)) (hb : Lib.idxOfS s.pts y = (b : Int)) (hu : u.size ≤ 18 ∧ Lib.atoi u.data.toList = some l) (hv : v.size ≤ 18 ∧ Lib.atoi v.data.toList = some h) : Tk s [bS [115, 108, 111, 112, 101], x, y, u, v] ⟨s.iv, s.pts, s.nts ++ [⟨4, (a : Int), (b : Int), l, h⟩]⟩
def stK (k : Nat) : StT := ⟨if k = 0 then 0 else 100, ptsS.take (k - 1), ntsS.take (k - 5)⟩
def wsK (k : Nat) : List ByteArray := spL ⟨(Lib.trimSuffix (LNS.getD k default) [10]).toArray⟩
theorem st_end : stK LNS.length = ⟨100, ptsS, ntsS⟩ := rfl
theorem st_b (k : Nat) : (stK k).pts.length ≤ 4 ∧ (stK k).nts.length ≤ 4 := by
 unfold stK
 dsimp only
 rw [List.length_take, List.length_take]
 exact ⟨Nat.min_le_right _ _, Nat.min_le_right _ _⟩
theorem ws_0 : wsK 0 = [bS [115, 104, 101, 101, 116], bS [49, 48, 48]] := by decide +kernel
theorem ws_1 : wsK 1 = [bS [112, 111, 105, 110, 116], bS [116, 111, 114]] := by decide +kernel
theorem ws_2 : wsK 2 = [bS [112, 111, 105, 110, 116], bS [109, 101, 114, 101]] := by decide +kernel
theorem ws_3 : wsK 3 = [bS [112, 111, 105, 110, 116], bS [102, 111, 114, 100]] := by decide +kernel
theorem ws_4 : wsK 4 = [bS [112, 111, 105, 110, 116], bS [100, 97, 109]] := by decide +kernel
theorem ws_5 : wsK 5 = [bS [115, 112, 111, 116], bS [116, 111, 114], bS [49, 49, 56, 48], bS [49, 50, 48, 48]] := by decide +kernel
theorem ws_6 : wsK 6 = [bS [99, 111, 110, 116, 111, 117, 114], bS [109, 101, 114, 101], bS [57], bS [49, 48]] := by decide +kernel
theorem ws_7 : wsK 7 = [bS [108, 97, 107, 101], bS [100, 97, 109], bS [109, 101, 114, 101]] := by decide +kernel
theorem ws_8 : wsK 8 = [bS [115, 108, 111, 112, 101], bS [116, 111, 114], bS [102, 111, 114, 100], bS [50, 53, 48], bS [51, 48, 48]] := by decide +kernel
theorem tk_all (k : Nat) (hk : k < LNS.length) : Tk (stK k) (wsK k) (stK (k + 1)) := by
 have h : k = 0 ∨ k = 1 ∨ k = 2 ∨ k = 3 ∨ k = 4 ∨ k = 5 ∨ k = 6 ∨ k = 7 ∨ k = 8 := by rw [lns_len] at hk; omega
 rcases h with rfl | rfl | rfl | rfl | rfl | rfl | rfl | rfl | rfl
 ·rw [ws_0]; exact Tk.sheet (stK 0) (bS [49, 48, 48]) 100 (by decide +kernel)
 ·rw [ws_1]; exact Tk.point (stK 1) (bS [116, 111, 114])
 ·rw [ws_2]; exact Tk.point (stK 2) (bS [109, 101, 114, 101])
 ·rw [ws_3]; exact Tk.point (stK 3) (bS [102, 111, 114, 100])
 ·rw [ws_4]; exact Tk.point (stK 4) (bS [100, 97, 109])
 ·rw [ws_5]; exact Tk.spot (stK 5) (bS [116, 111, 114]) (bS [49, 49, 56, 48]) (bS [49, 50, 48, 48]) 0 1180 1200 (by decide +kernel) (by decide +kernel) (by decide +kernel) (by decide +kernel)
 ·rw [ws_6]; exact Tk.contour (stK 6) (bS [109, 101, 114, 101]) (bS [57]) (bS [49, 48]) 1 9 10 (by decide +kernel) (by decide +kernel) (by decide +kernel) (by decide +kernel)
 ·rw [ws_7]; exact Tk.lake (stK 7) (bS [100, 97, 109]) (bS [109, 101, 114, 101]) 3 1 (by decide +kernel) (by decide +kernel) (by decide +kernel)
 ·rw [ws_8]; exact Tk.slope (stK 8) (bS [116, 111, 114]) (bS [102, 111, 114, 100]) (bS [50, 53, 48]) (bS [51, 48, 48]) 0 2 250 300 (by decide +kernel) (by decide +kernel) (by decide +kernel) (by decide +kernel) (by decide +kernel)
theorem wsl_all : ∀ k : Fin 9, ((⟨(Lib.trimSuffix (LNS.getD k default) [10]).toArray⟩ : ByteArray)).size < 4294967281 := by decide +kernel
end Go.Proofs.YtnhhfkgldoeifaaGreatDoor.Sh
end
section
namespace Go.Proofs.YtnhhfkgldoeifaaGreatDoor.Sh
open Go.RowKit Go
open Go.K (setd setn ev nth over cl eI eP eT setM setF)
attribute [local irreducible] K.blk K.row
theorem bl46z : K.Bl Tryz.prog 46 [] (.agg #[.int .i64 0, .int .i64 0]) := fun w => by kernel_rfl
def apE (lo hi : Int) : Int := if (lo, hi) = ((0 : Int), (0 : Int)) then 3 else if lo > 0 then 2 else if hi < 0 then 1 else 0

set_option maxRecDepth 100000 in
set_option maxHeartbeats 1000000 in
theorem c24 {iv : Int} {pts : List ByteArray} {nts : List NtT} {A B : Option Addr} {c d : Nat} {i k : Nat} {w : World} (hP : K.Rd w A 1 eG pts) (hN : K.Rd w B 5 eO nts) (g : GoodS iv pts nts) (hA : (allB iv nts 0 nts.length).2 = true) (hi : i < pts.length) (hk : k < pts.length) :
  Calls Tryz.prog 24 [.agg #[.int .i64 iv, .slice A pts.length c, .slice B nts.length d], .int .i64 (i : Int), .int .i64 (k : Int)].toArray w (K.Gives (.tuple #[.agg #[.int .i64 (-(bat (allB iv nts 0 nts.length).1 i k)), .int .i64 (bat (allB iv nts 0 nts.length).1 k i)], .int .i64 (apE (-(bat (allB iv nts 0 nts.length).1 i k)) (bat (allB iv nts 0 nts.length).1 k i)), .int .i64 0]) w) := by
 have hcl := all_c (wd := 0) g (Nat.le_refl _)
 have hgn := g.n
 have hc1 := mx_at (B := (allB iv nts 0 nts.length).1) (i := i) (k := k) hcl.n (by omega) (by omega)
 have hc2 := mx_at (B := (allB iv nts 0 nts.length).1) (i := k) (k := i) hcl.n (by omega) (by omega)
 have hlo := hcl.lo (i := i) (k := k) (by omega) (by omega)
 refine K.enter (args := [.agg #[.int .i64 iv, .slice A pts.length c, .slice B nts.length d], .int .i64 (i : Int), .int .i64 (k : Int)]) Tryz.func24 rfl (n := 61) rfl ?_
 refine zR ?_
 refine sr ?_
 refine qn (K.box) fun b3 => ?_
 refine qn (K.alloc zr_46) fun b6 => ?_
 iterate 2 refine qa ?_
 refine sn (K.seq (sr (ql (K.jA ag_25 rfl (K.m1) rfl) ?_)))
 refine qc (K.nA cal_58 (fun F w hF hw => c58 (hP.pass hw) (hN.pass hw) g)) ?_
 refine qm ?_
 iterate 3 refine qx ?_
 refine qa ?_
 refine sn (sr (qm ?_))
 refine qp (K.Pure.eq (K.neq rfl rfl) (show _ = Value.bool false from rfl)) ?_
 refine sn (K.oA rfl ?_)
 refine K.skip (K.dA (K.seq (sr (qp (K.aA fo_25_1 rfl) ?_))))
 refine ql (K.fA one_22 rfl (K.m1) rfl) ?_
 refine qp (K.aB sl_22 rfl) ?_
 refine qp (K.oB rfl rfl (by omega)) ?_
 iterate 2 refine qm ?_
 refine qn (K.buildSlice (bs26 _ _)) fun b26 => ?_
 refine qc (K.nA cal_59 (fun F w hF hw => c59_2f (by omega) hw (hF _ (K.m0)))) ?_
 refine sn (K.oA rfl ?_)
 refine K.skip (K.dA (sr (ql (K.jA ag_25 rfl (K.m2) rfl) ?_)))
 refine qc (K.nA cal_46 (fun F w hF hw => c46y (hP.pass hw) (hN.pass hw) g hA)) ?_
 refine qm ?_
 iterate 2 refine qx ?_
 refine qn (alloc_mx zr_94m) fun b9 => ?_
 refine qt (K.store_mx sz_94 rfl rfl (mx_len hcl.n) (mx_len zM_len) K.mI_one (K.rp0)) ?_
 refine zN ?_
 refine qa ?_
 refine sn (K.seq (sr (qm ?_)))
 refine qp (K.Pure.eq (K.neq rfl rfl) (show _ = Value.bool false from rfl)) ?_
 refine sn (K.oA rfl ?_)
 refine K.skip (K.dA (K.seq ?_))
 refine K.nB [12] uA ?_
 refine dp 0 rfl (K.move) ?_
 refine dp 1 rfl (K.move) ?_
 refine dp 2 rfl (K.Pure.eq (K.iB ar_94 rfl rfl (by omega) (by omega)) (show _ = Value.pointer (some ⟨b9, 0 + i * 9, none⟩) from by rw [Int.toNat_natCast])) ?_
 refine dp 3 rfl (K.Pure.eq (K.iB ar_92 rfl rfl (by omega) (by omega)) (show _ = Value.pointer (some ⟨b9, 0 + i * 9 + k, none⟩) from by rw [Int.toNat_natCast, Nat.mul_one])) ?_
 refine dm 4 rfl (K.mB one_3 rfl (K.PtrL.own' ((K.m0))) hc1) ?_
 refine dp 5 rfl (K.neg_i64 rfl (by omega)) ?_
 refine dp 6 rfl (K.move) ?_
 refine dp 7 rfl (K.move) ?_
 refine dp 8 rfl (K.Pure.eq (K.iB ar_94 rfl rfl (by omega) (by omega)) (show _ = Value.pointer (some ⟨b9, 0 + k * 9, none⟩) from by rw [Int.toNat_natCast])) ?_
 refine dp 9 rfl (K.Pure.eq (K.iB ar_92 rfl rfl (by omega) (by omega)) (show _ = Value.pointer (some ⟨b9, 0 + k * 9 + i, none⟩) from by rw [Int.toNat_natCast, Nat.mul_one])) ?_
 refine dm 10 rfl (K.mB one_3 rfl (K.PtrL.own' ((K.m0))) hc2) ?_
 refine dp 11 rfl (K.build (bl46 _ _)) ?_
 refine K.eC 12 rfl (K.vA sz_46 rfl rfl rfl rfl (K.rp2)) rfl (by kernel_rfl) rfl ?_
 intro _ _
 refine zN ?_
 refine dd (K.dA (K.seq (K.block (sr (ql (K.jA kC rfl (K.m2) rfl) ?_)))))
 refine K.mA (K.build (bl46z)) rfl ?_
 refine zN ?_
 refine qp (K.eql_s2 s2_46 rfl rfl) ?_
 refine qa ?_
 refine sn ?_
 refine K.cond rfl (fun ht50 => ?_) (fun ht50 => ?_)
 ·try replace ht50 := Kq.oT ht50
  refine K.gA (qa ?_)
  refine K.lA (K.kA (K.dA (sr (ql (K.jA kC rfl (K.m2) rfl) ?_))))
  refine qm ?_
  refine qt (K.vA sz_46 rfl rfl rfl rfl (K.rp2)) ?_
  iterate 2 refine qa ?_
  refine sn (K.ret ?_)
  refine K.wA (fun w hw => K.res_ctt rfl rfl (K.run_cellA kC rfl (K.m2) rfl w hw)) ?_
  exact K.gives (by unfold apE; rw [if_pos ht50]; rfl)
 try replace ht50 := Kq.oF ht50
 refine sr (qp (K.aA fo_46_0 rfl) ?_)
 refine ql (K.fA one_3 rfl (K.m2) rfl) ?_
 refine qp (K.gtr rfl rfl) ?_
 refine qa ?_
 refine sn ?_
 refine K.cond rfl (fun ht54 => ?_) (fun ht54 => ?_)
 ·try replace ht54 := Kq.oT ht54
  refine K.gA (qa ?_)
  refine K.lA (K.kA (K.dA (sr (ql (K.jA kC rfl (K.m2) rfl) ?_))))
  refine qm ?_
  refine qt (K.vA sz_46 rfl rfl rfl rfl (K.rp2)) ?_
  iterate 2 refine qa ?_
  refine sn (K.ret ?_)
  refine K.wA (fun w hw => K.res_ctt rfl rfl (K.run_cellA kC rfl (K.m2) rfl w hw)) ?_
  exact K.gives (by unfold apE; rw [if_neg ht50, if_pos ht54]; rfl)
 try replace ht54 := Kq.oF ht54
 refine sr (qp (K.aA fo_46_1 rfl) ?_)
 refine ql (K.fA one_3 rfl (K.m2) rfl) ?_
 refine qp (K.lss rfl rfl) ?_
 refine qa ?_
 refine sn ?_
 refine K.cond rfl (fun ht58 => ?_) (fun ht58 => ?_)
 ·try replace ht58 := Kq.oT ht58
  refine K.gA (qa ?_)
  refine K.lA (K.kA (K.dA (sr (ql (K.jA kC rfl (K.m2) rfl) ?_))))
  refine qm ?_
  refine qt (K.vA sz_46 rfl rfl rfl rfl (K.rp2)) ?_
  iterate 2 refine qa ?_
  refine sn (K.ret ?_)
  refine K.wA (fun w hw => K.res_ctt rfl rfl (K.run_cellA kC rfl (K.m2) rfl w hw)) ?_
  exact K.gives (by unfold apE; rw [if_neg ht50, if_neg ht54, if_pos ht58]; rfl)
 try replace ht58 := Kq.oF ht58
 refine K.skip (K.kA (K.dA (sr (ql (K.jA kC rfl (K.m2) rfl) ?_))))
 refine qm ?_
 refine qt (K.vA sz_46 rfl rfl rfl rfl (K.rp2)) ?_
 iterate 2 refine qa ?_
 refine sn (K.ret ?_)
 refine K.wA (fun w hw => K.res_ctt rfl rfl (K.run_cellA kC rfl (K.m2) rfl w hw)) ?_
 exact K.gives (by unfold apE; rw [if_neg ht50, if_neg ht54, if_neg ht58]; rfl)

end Go.Proofs.YtnhhfkgldoeifaaGreatDoor.Sh
end
section
namespace Go.Proofs.YtnhhfkgldoeifaaGreatDoor.Sh
open Go.RowKit Go
open Go.K (setd setn ev nth over cl eI eP eT setM setF)
attribute [local irreducible] K.blk K.row

set_option maxRecDepth 100000 in
set_option maxHeartbeats 2000000 in
theorem c25 {iv : Int} {pts : List ByteArray} {nts : List NtT} {A B : Option Addr} {c d : Nat} {w : World} (hP : K.Rd w A 1 eG pts) (hN : K.Rd w B 5 eO nts) (g : GoodS iv pts nts) (hA : (allB iv nts 0 nts.length).2 = true) :
  Calls Tryz.prog 25 [.agg #[.int .i64 iv, .slice A pts.length c, .slice B nts.length d]].toArray w (K.RetSE 3 1 K.eI (hiL (allB iv nts 0 nts.length).1 pts.length pts.length) 0 w) := by
 have hcl := all_c (wd := 0) g (Nat.le_refl _)
 have hgn := g.n
 refine K.enter (args := [.agg #[.int .i64 iv, .slice A pts.length c, .slice B nts.length d]]) Tryz.func25 rfl (n := 43) rfl ?_
 refine zR ?_
 refine sr ?_
 refine qn (K.box) fun b1 => ?_
 iterate 2 refine qa ?_
 refine sn (sr (ql (K.jA ag_25 rfl (K.m0) rfl) ?_))
 refine qc (K.nA cal_46 (fun F w hF hw => c46y (hP.pass hw) (hN.pass hw) g hA)) ?_
 refine qm ?_
 iterate 2 refine qx ?_
 refine qn (alloc_mx zr_94m) fun b4 => ?_
 refine qt (K.store_mx sz_94 rfl rfl (mx_len hcl.n) (mx_len zM_len) K.mI_one (K.rp0)) ?_
 refine zN ?_
 refine qa ?_
 refine sn (K.seq (sr (qm ?_)))
 refine qp (K.Pure.eq (K.neq rfl rfl) (show _ = Value.bool false from rfl)) ?_
 refine sn (K.oA rfl ?_)
 refine K.skip (K.dA (K.seq (sr ?_)))
 refine K.jC (e := 3) (size := 1) ?_
 refine K.permH (L' := [_, _, _]) (Kq.pz ((Kq.pz (Kq.p0)))) ?_
 refine qp (K.aA fo_25_1 rfl) ?_
 refine ql (K.fA one_22 rfl (K.m1) rfl) ?_
 refine qp (K.aB sl_22 rfl) ?_
 refine qm ?_
 refine sn (K.block ?_)
 refine K.loopW [2, 20] [5, 6, 7, 8, 21, 22, 23, 24, 25, 26, 27, 28, 29, 30, 31, 32, 33, 34, 35, 36, 37, 38, 39, 40, 41, 42] (fun vi L => ∃ (i : Nat) (Q : Option Addr) (q : Nat), vi = [.slice Q (hiL (allB iv nts 0 nts.length).1 pts.length i).length q, .int .i64 (i : Int)] ∧ L = [K.blk b4 94 (K.mI (allB iv nts 0 nts.length).1), K.blk b1 25 [.int .i64 iv, .slice A pts.length c, .slice B nts.length d], K.row (.slice Q (hiL (allB iv nts 0 nts.length).1 pts.length i).length q) 3 1 (hiL (allB iv nts 0 nts.length).1 pts.length i).length ((hiL (allB iv nts 0 nts.length).1 pts.length i).flatMap K.eI)] ∧ i ≤ pts.length) (fun vi => pts.length - (intOf (K.nth vi 1)).toNat) ?_ ?_
 ·exact ⟨0, none, 0, rfl, rfl, Nat.zero_le _⟩
 intro vi vr L hJ
 obtain ⟨i, Q, q, rfl, rfl, hin⟩ := hJ
 refine zY ?_
 refine sr (qp (K.lss rfl rfl) ?_)
 refine sn (K.seq ?_)
 refine K.cond rfl (fun ht21 => ?_) (fun ht21 => ?_)
 ·try replace ht21 := Kq.oT ht21
  have hi : i < pts.length := by omega
  refine K.skip (K.dA (K.seq (K.block (sr (qm ?_)))))
  refine qa ?_
  refine sn (sr (ql (K.load_mx uC rfl ((K.m0)) (mx_len hcl.n)) ?_))
  refine qn (alloc_mx zr_94m) fun b6 => ?_
  refine qt (K.store_mx sz_94 rfl rfl (mx_len hcl.n) (mx_len zM_len) K.mI_one (K.rp0)) ?_
  refine zN ?_
  refine qa ?_
  refine sn (K.seq (sr (qp (K.aA fo_25_1 rfl) ?_)))
  refine ql (K.fA one_22 rfl (K.m2) rfl) ?_
  refine qp (K.aB sl_22 rfl) ?_
  refine qm ?_
  refine sn (K.block ?_)
  refine K.loopW [7, 27] [8, 28, 29, 30, 31, 32, 33, 34, 35, 36] (fun vi L => ∃ k : Nat, vi = [.bool (hq (allB iv nts 0 nts.length).1 i k).1, .int .i64 (k : Int)] ∧ L = [K.blk b6 94 (K.mI (hq (allB iv nts 0 nts.length).1 i k).2), K.blk b4 94 (K.mI (allB iv nts 0 nts.length).1), K.blk b1 25 [.int .i64 iv, .slice A pts.length c, .slice B nts.length d], K.row (.slice Q (hiL (allB iv nts 0 nts.length).1 pts.length i).length q) 3 1 (hiL (allB iv nts 0 nts.length).1 pts.length i).length ((hiL (allB iv nts 0 nts.length).1 pts.length i).flatMap K.eI)] ∧ k ≤ pts.length) (fun vi => pts.length - (intOf (K.nth vi 1)).toNat) ?_ ?_
  ·exact ⟨0, rfl, rfl, Nat.zero_le _⟩
  intro vi vr L hJ
  obtain ⟨k, rfl, rfl, hkn⟩ := hJ
  refine zY ?_
  refine sr (qp (K.lss rfl rfl) ?_)
  refine sn (K.seq ?_)
  refine K.cond rfl (fun ht28 => ?_) (fun ht28 => ?_)
  ·try replace ht28 := Kq.oT ht28
   have hk : k < pts.length := by omega
   have hcq := hq_cl hcl (show i < 9 by omega) k (by omega)
   refine K.skip (K.dA (K.seq (K.block (sr (qm ?_)))))
   refine qa ?_
   refine sn (K.gA ?_)
   iterate 2 refine qm ?_
   refine K.split 31 rfl (fun hg31 => ?_) (fun hg31 => ?_)
   ·try replace hg31 := Kq.oT hg31
    iterate 2 refine qm ?_
    refine K.xB (K.callU_f cal_60 (fun w hw => c60 hw hcq.n (by omega) (by omega) (fun i k h1 h2 => hcq.lo h1 h2) (by omega))) rfl ?_
    rintro ⟨⟩ _
    refine zN ?_
    refine qp (K.sA rfl) ?_
    refine qa ?_
    refine K.lA (K.kA (K.dA (K.gA (qp (K.tA rfl rfl (by omega)) ?_))))
    refine qm ?_
    refine K.lA ?_
    exact K.rA (L'' := [K.blk b6 94 (K.mI ((bind1 (hq (allB iv nts 0 nts.length).1 i k).2 i k 0).getD (hq (allB iv nts 0 nts.length).1 i k).2)), K.blk b4 94 (K.mI (allB iv nts 0 nts.length).1), K.blk b1 25 [.int .i64 iv, .slice A pts.length c, .slice B nts.length d], K.row (.slice Q (hiL (allB iv nts 0 nts.length).1 pts.length i).length q) 3 1 (hiL (allB iv nts 0 nts.length).1 pts.length i).length ((hiL (allB iv nts 0 nts.length).1 pts.length i).flatMap K.eI)]) [.bool (bind1 (hq (allB iv nts 0 nts.length).1 i k).2 i k 0).isSome, .int .i64 ((k : Int) + 1)] ⟨k + 1, by rw [hq_y hg31]; rfl, by rw [hq_y hg31], by omega⟩ (by simp [K.nth, intOf]; omega) Kq.s0 (by kernel_rfl)
   try replace hg31 := Kq.oF hg31
   iterate 3 refine qs ?_
   refine qp (K.dB rfl) ?_
   refine qa ?_
   refine K.lA (K.kA (K.dA (K.gA (qp (K.tA rfl rfl (by omega)) ?_))))
   refine qm ?_
   refine K.lA ?_
   have hq1 : (hq (allB iv nts 0 nts.length).1 i k).1 = false := by simpa using hg31
   exact K.rA (L'' := [K.blk b6 94 (K.mI (hq (allB iv nts 0 nts.length).1 i k).2), K.blk b4 94 (K.mI (allB iv nts 0 nts.length).1), K.blk b1 25 [.int .i64 iv, .slice A pts.length c, .slice B nts.length d], K.row (.slice Q (hiL (allB iv nts 0 nts.length).1 pts.length i).length q) 3 1 (hiL (allB iv nts 0 nts.length).1 pts.length i).length ((hiL (allB iv nts 0 nts.length).1 pts.length i).flatMap K.eI)]) [.bool false, .int .i64 ((k : Int) + 1)] ⟨k + 1, by rw [hq_n hq1, hq1]; rfl, by rw [hq_n hq1], by omega⟩ (by simp [K.nth, intOf]; omega) Kq.s0 (by kernel_rfl)
  try replace ht28 := Kq.oF ht28
  have e1 : k = pts.length := by omega
  subst e1
  refine K.exit (K.pA (K.pA (K.zA (K.dA (sr (qm ?_))))))
  refine sn ?_
  refine K.cond rfl (fun ht37 => ?_) (fun ht37 => ?_)
  ·try replace ht37 := Kq.oT ht37
   refine K.gA ?_
   iterate 2 refine qm ?_
   refine qn (K.buildSlice (bsI _)) fun b40 => ?_
   refine K.xB (K.append el_26 rfl rfl (K.PtrL.own' (K.m0)) rfl rfl (by decide) (by have := @hi_len (allB iv nts 0 nts.length).1 pts.length i; omega) (by have := @hi_len (allB iv nts 0 nts.length).1 pts.length i; omega) (fun _ _ => K.rp4)) rfl ?_
   rintro ⟨g41, c41⟩ _
   refine zN ?_
   refine qa ?_
   refine K.lA (K.kA (K.dA (K.gA (qp (K.tA rfl rfl (by omega)) ?_))))
   refine qm ?_
   refine K.lA ?_
   refine K.permH (L' := [_, _, _, _, _]) (List.Perm.trans (List.perm_middle (l₁ := [_, _])) (List.Perm.cons _ (List.Perm.trans (List.perm_middle (l₁ := [_, _])) (List.Perm.cons _ (List.Perm.trans (List.perm_middle (l₁ := [_, _])) (List.Perm.cons _ Kq.p0)))))) ?_
   exact K.rA (L'' := [K.blk b4 94 (K.mI (allB iv nts 0 nts.length).1), K.blk b1 25 [.int .i64 iv, .slice A pts.length c, .slice B nts.length d], K.row (.slice (some ⟨g41, 0, none⟩) ((hiL (allB iv nts 0 nts.length).1 pts.length i).length + 1) c41) 3 1 ((hiL (allB iv nts 0 nts.length).1 pts.length i).length + 1) ((hiL (allB iv nts 0 nts.length).1 pts.length i).flatMap K.eI ++ [.int .i64 (i : Int)])]) [.slice (some ⟨g41, 0, none⟩) ((hiL (allB iv nts 0 nts.length).1 pts.length i).length + 1) c41, .int .i64 ((i : Int) + 1)] ⟨i + 1, some ⟨g41, 0, none⟩, c41, by rw [hi_y ht37, List.length_append]; rfl, by rw [hi_y ht37, List.length_append, List.flatMap_append]; rfl, by omega⟩ (by simp [K.nth, intOf]; omega) (Kq.sc (Kq.sc (Kq.sc (List.nil_sublist _)))) (by kernel_rfl)
  try replace ht37 := Kq.oF ht37
  have hq2 : (hq (allB iv nts 0 nts.length).1 i pts.length).1 = false := by simpa using ht37
  refine K.skip (K.kA (K.dA (K.gA (qp (K.tA rfl rfl (by omega)) ?_))))
  refine qm ?_
  refine K.lA ?_
  refine K.permH (L' := [_, _, _, _]) (Kq.pz ((Kq.pz ((Kq.pz (Kq.p0)))))) ?_
  exact K.rA (L'' := [K.blk b4 94 (K.mI (allB iv nts 0 nts.length).1), K.blk b1 25 [.int .i64 iv, .slice A pts.length c, .slice B nts.length d], K.row (.slice Q (hiL (allB iv nts 0 nts.length).1 pts.length i).length q) 3 1 (hiL (allB iv nts 0 nts.length).1 pts.length i).length ((hiL (allB iv nts 0 nts.length).1 pts.length i).flatMap K.eI)]) [.slice Q (hiL (allB iv nts 0 nts.length).1 pts.length i).length q, .int .i64 ((i : Int) + 1)] ⟨i + 1, Q, q, by rw [hi_n hq2]; rfl, by rw [hi_n hq2], by omega⟩ (by simp [K.nth, intOf]; omega) (Kq.sc (Kq.sc (Kq.sc (List.nil_sublist _)))) (by kernel_rfl)
 try replace ht21 := Kq.oF ht21
 refine K.exit (K.pA (K.pA (K.zA (K.dA (sr (qm ?_))))))
 iterate 2 refine qa ?_
 refine sn (K.ret ?_)
 refine K.wA (fun w _ => K.qB rfl w) ?_
 have e0 : i = pts.length := by omega
 subst e0
 exact K.rets_se K.m2 rfl rfl rfl rfl

end Go.Proofs.YtnhhfkgldoeifaaGreatDoor.Sh
end
section
namespace Go.K
open Go.RowKit
section
variable {P : Program} {w0 : World} {L L' : List Chunk} {l : List Value} {d : Option Tmp} {ty : TypeId} {ps : String} {af : Array Edge} {g : Option (Nat × Bool)}
theorem neq_key {t yt m : Nat} {x y : Operand} {a b : Value} {la lb : List Lit} (hk : P.keyTypeAt 10 t = true) (hg : P.eqGuardType P.depth t = false) (hx : ev l x = a) (hy : ev l y = b) (fa : a.formed P t = true) (fb : b.formed P t = true)
  (ha : P.keyLits m t a.cells.toList = some la) (hb : P.keyLits m t b.cells.toList = some lb) (hag : ∃ xs ys, a = .agg xs ∧ b = .agg ys) (c : Bool) (hc : c = true ↔ la = lb) : Pure P ⟨d, .binOp .neq t x y yt, ty, ps, af, g⟩ l (.bool (!c)) := fun w => by
 obtain ⟨xs, ys, rfl, rfl⟩ := hag
 obtain ⟨r, h1, h2⟩ := run_equalIn_deep (P := P) 9990 10 t hk w m m (.agg xs) (.agg ys) la lb fa fb ha hb
 have e1 : r = c := by rw [Bool.eq_iff_iff, h2, hc]
 have h3 := run_eqGuard_agg (P := P) w .neq t x y xs ys hg
 have h4 := run_neq_struct (P := P) w t xs ys
 simp only [execOp, hx, hy, Sem.run_bind, h3, Result.andThen_ok, h4, h1, e1, Sem.run_pure]
theorem neq_same {t yt m : Nat} {x y : Operand} {xs : Array Value} {la : List Lit} (hk : P.keyTypeAt 10 t = true) (hg : P.eqGuardType P.depth t = false) (hx : ev l x = .agg xs) (hy : ev l y = .agg xs) (fa : (Value.agg xs).formed P t = true)
  (ha : P.keyLits m t xs.toList = some la) : Pure P ⟨d, .binOp .neq t x y yt, ty, ps, af, g⟩ l (.bool false) :=
 neq_key (c := true) hk hg hx hy fa fa ha ha ⟨_, _, rfl, rfl⟩ (by simp)
end
end Go.K
end
section
namespace Go.Proofs.YtnhhfkgldoeifaaGreatDoor.Sh
open Go.RowKit Go
open Go.K (setd setn ev nth over cl eI eP eT setM setF)
attribute [local irreducible] K.blk K.row

set_option maxRecDepth 100000 in
theorem c71 {A B : Option Addr} {c d : Nat} {xs : List ByteArray} {w : World} (hX : K.Rd w A 1 eG xs) (hY : K.Rd w B 1 eG xs) (hn : xs.length ≤ 4611686018427387904) :
  Calls Tryz.prog 71 [.slice A xs.length c, .slice B xs.length d].toArray w (K.Gives (.bool true) w) := by
 refine K.enter (args := [.slice A xs.length c, .slice B xs.length d]) Tryz.func71 rfl (n := 24) rfl ?_
 refine zR ?_
 refine sr (qa ?_)
 refine sn (K.seq (sr (qm ?_)))
 refine qp (K.aB sl_22 rfl) ?_
 refine qm ?_
 refine qp (K.aB sl_22 rfl) ?_
 refine qp (K.Pure.eq (K.neq rfl rfl) (show _ = Value.bool false from congrArg Value.bool (decide_eq_false (fun h => h rfl)))) ?_
 refine sn (K.oA rfl ?_)
 refine K.skip (K.dA (K.seq (sr (qa ?_))))
 refine sn (K.block ?_)
 refine K.loopW [5] [4, 11, 12, 13, 14, 15, 16, 17, 18, 19, 20, 21, 22, 23, 24, 25] (fun vi L => ∃ k : Nat, vi = [.int .i64 (k : Int)] ∧ L = [] ∧ k ≤ xs.length) (fun vi => xs.length - (intOf (K.nth vi 0)).toNat) ?_ ?_
 ·exact ⟨0, rfl, rfl, Nat.zero_le _⟩
 intro vi vr L hJ
 obtain ⟨k, rfl, rfl, hkn⟩ := hJ
 refine zY ?_
 refine K.seq (sr ?_)
 iterate 2 refine qm ?_
 refine qp (K.aB sl_22 rfl) ?_
 refine qp (K.lss rfl rfl) ?_
 refine sn ?_
 refine K.cond rfl (fun ht14 => ?_) (fun ht14 => ?_)
 ·try replace ht14 := Kq.oT ht14
  have hk : k < xs.length := by omega
  refine K.skip (K.dA (K.seq (K.block (K.seq ?_))))
  refine K.nB [] uA ?_
  refine dp 0 rfl (K.move) ?_
  refine dp 1 rfl (K.move) ?_
  refine K.d_ix (M := []) 2 _ rfl hX.sl sl_22 rfl rfl rfl (by omega) (by kernel_rfl) rfl ?_
  intro p19 hp19
  refine zN ?_
  refine dm 3 rfl (K.load1 one_9 rfl (hp19.any)) ?_
  refine dp 4 rfl (K.move) ?_
  refine dp 5 rfl (K.move) ?_
  refine K.d_ix (M := []) 6 _ rfl hY.sl sl_22 rfl rfl rfl (by omega) (by kernel_rfl) rfl ?_
  intro p23 hp23
  refine zN ?_
  refine dm 7 rfl (K.load1 one_9 rfl (hp23.any)) ?_
  refine dp 8 rfl (K.Pure.eq (K.neq_s rfl rfl) (show _ = Value.bool false from congrArg Value.bool (by simp))) ?_
  refine dd (K.dA (K.oA rfl ?_))
  refine K.skip (K.kA (K.dA (K.gA (qm ?_))))
  refine qp (K.tA rfl rfl (by omega)) ?_
  refine qa ?_
  refine K.lA ?_
  exact K.rA (L'' := []) [.int .i64 ((k : Int) + 1)] ⟨k + 1, rfl, rfl, by omega⟩ (by simp [K.nth, intOf]; omega) (List.nil_sublist _) (by kernel_rfl)
 try replace ht14 := Kq.oF ht14
 refine K.exit (K.pA (K.pA (K.zA (K.dA (sr (qa ?_))))))
 refine sn (K.ret (et ?_))
 exact K.gives rfl

end Go.Proofs.YtnhhfkgldoeifaaGreatDoor.Sh
end
section
namespace Go.Proofs.YtnhhfkgldoeifaaGreatDoor.Sh
open Go.RowKit Go
open Go.K (setd setn ev nth over cl eI eP eT setM setF)
attribute [local irreducible] K.blk K.row
theorem key58 : Tryz.prog.keyTypeAt 10 58 = true := by kernel_rfl
theorem guard58 : Tryz.prog.eqGuardType Tryz.prog.depth 58 = false := by kernel_rfl
theorem form58 (k a b l h : Int) : (Value.agg #[.int .i64 k, .int .i64 a, .int .i64 b, .int .i64 l, .int .i64 h]).formed Tryz.prog 58 = true := by kernel_rfl

set_option maxRecDepth 100000 in
theorem c35 {iv : Int} {pts : List ByteArray} {nts : List NtT} {A B A2 B2 : Option Addr} {c d c2 d2 : Nat} {w : World} (hP : K.Rd w A 1 eG pts) (hN : K.Rd w B 5 eO nts) (hP2 : K.Rd w A2 1 eG pts) (hN2 : K.Rd w B2 5 eO nts) (hn : pts.length ≤ 1000) (hm : nts.length ≤ 1000) (hl : ∀ x ∈ nts, ∃ la, Tryz.prog.keyLits 5 58 (eO x) = some la) :
  Calls Tryz.prog 35 [.agg #[.int .i64 iv, .slice A pts.length c, .slice B nts.length d], .agg #[.int .i64 iv, .slice A2 pts.length c2, .slice B2 nts.length d2]].toArray w (K.Gives (.bool true) w) := by
 refine K.enter (args := [.agg #[.int .i64 iv, .slice A pts.length c, .slice B nts.length d], .agg #[.int .i64 iv, .slice A2 pts.length c2, .slice B2 nts.length d2]]) Tryz.func35 rfl (n := 44) rfl ?_
 refine zR ?_
 refine sr ?_
 refine qn (K.box) fun b2 => ?_
 refine qn (K.box) fun b3 => ?_
 refine qa ?_
 refine sn (K.seq (sr (qp (K.aA fo_25_0 rfl) ?_)))
 refine ql (K.fA one_3 rfl (K.m1) rfl) ?_
 refine qp (K.aA fo_25_0 rfl) ?_
 refine ql (K.fA one_3 rfl (K.m0) rfl) ?_
 refine qp (K.Pure.eq (K.neq rfl rfl) (show _ = Value.bool false from congrArg Value.bool (decide_eq_false (fun h => h rfl)))) ?_
 refine qm ?_
 refine qp (K.aA fo_25_1 rfl) ?_
 refine ql (K.fA one_22 rfl (K.m1) rfl) ?_
 refine qp (K.aA fo_25_1 rfl) ?_
 refine ql (K.fA one_22 rfl (K.m0) rfl) ?_
 refine qc (K.nA cal_71 (fun F w hF hw => c71 (hP.pass hw) (hP2.pass hw) (by omega))) ?_
 first | refine K.mA (K.Pure.eq (K.fC rfl) (show _ = Value.bool false from rfl)) rfl ?_ | refine K.mA (K.Pure.eq (K.not_ rfl) (show _ = Value.bool false from rfl)) rfl ?_
 refine zN ?_
 refine qp (K.dB rfl) ?_
 refine qm ?_
 refine qp (K.aA fo_25_2 rfl) ?_
 refine ql (K.fA one_23 rfl (K.m1) rfl) ?_
 refine qp (K.aB sl_23 rfl) ?_
 refine qp (K.aA fo_25_2 rfl) ?_
 refine ql (K.fA one_23 rfl (K.m0) rfl) ?_
 refine qp (K.aB sl_23 rfl) ?_
 refine qp (K.Pure.eq (K.neq rfl rfl) (show _ = Value.bool false from congrArg Value.bool (decide_eq_false (fun h => h rfl)))) ?_
 refine qp (K.dB rfl) ?_
 refine sn (K.oA rfl ?_)
 refine K.skip (K.dA (K.seq (sr (qa ?_))))
 refine sn (K.block ?_)
 refine K.loopW [5] [4, 28, 29, 30, 31, 32, 33, 34, 35, 36, 37, 38, 39, 40, 41, 42, 43, 44, 45] (fun vi L => ∃ k : Nat, vi = [.int .i64 (k : Int)] ∧ L = [K.blk b3 25 [.int .i64 iv, .slice A2 pts.length c2, .slice B2 nts.length d2], K.blk b2 25 [.int .i64 iv, .slice A pts.length c, .slice B nts.length d]] ∧ k ≤ nts.length) (fun vi => nts.length - (intOf (K.nth vi 0)).toNat) ?_ ?_
 ·exact ⟨0, rfl, rfl, Nat.zero_le _⟩
 intro vi vr L hJ
 obtain ⟨k, rfl, rfl, hkn⟩ := hJ
 refine zY ?_
 refine K.seq (sr (qm ?_))
 refine qp (K.aA fo_25_2 rfl) ?_
 refine ql (K.fA one_23 rfl (K.m1) rfl) ?_
 refine qp (K.aB sl_23 rfl) ?_
 refine qp (K.lss rfl rfl) ?_
 refine sn ?_
 refine K.cond rfl (fun ht32 => ?_) (fun ht32 => ?_)
 ·try replace ht32 := Kq.oT ht32
  have hk : k < nts.length := by omega
  obtain ⟨la, hla⟩ := hl _ (K.gt_mem hk)
  refine K.skip (K.dA (K.seq (K.block (K.seq ?_))))
  refine K.nB [] uA ?_
  refine dp 0 rfl (K.aA fo_25_2 rfl) ?_
  refine dm 1 rfl (K.fA one_23 rfl (K.m1) rfl) ?_
  refine dp 2 rfl (K.move) ?_
  refine K.d_ix (M := []) 3 _ rfl hN.sl sl_23 rfl rfl rfl (by omega) (by kernel_rfl) rfl ?_
  intro p38 hp38
  refine zN ?_
  refine dm 4 rfl (K.uB ag_58 rfl (hp38.any) rfl) ?_
  refine dp 5 rfl (K.aA fo_25_2 rfl) ?_
  refine dm 6 rfl (K.fA one_23 rfl (K.m0) rfl) ?_
  refine dp 7 rfl (K.move) ?_
  refine K.d_ix (M := []) 8 _ rfl hN2.sl sl_23 rfl rfl rfl (by omega) (by kernel_rfl) rfl ?_
  intro p43 hp43
  refine zN ?_
  refine dm 9 rfl (K.uB ag_58 rfl (hp43.any) rfl) ?_
  refine dp 10 rfl (K.Pure.eq (K.neq_same (m := 5) key58 guard58 rfl rfl (form58 _ _ _ _ _) hla) (show _ = Value.bool false from rfl)) ?_
  refine dd (K.dA (K.oA rfl ?_))
  refine K.skip (K.kA (K.dA (K.gA (qm ?_))))
  refine qp (K.tA rfl rfl (by omega)) ?_
  refine qa ?_
  refine K.lA ?_
  exact K.rA (L'' := [K.blk b3 25 [.int .i64 iv, .slice A2 pts.length c2, .slice B2 nts.length d2], K.blk b2 25 [.int .i64 iv, .slice A pts.length c, .slice B nts.length d]]) [.int .i64 ((k : Int) + 1)] ⟨k + 1, rfl, rfl, by omega⟩ (by simp [K.nth, intOf]; omega) Kq.s0 (by kernel_rfl)
 try replace ht32 := Kq.oF ht32
 refine K.exit (K.pA (K.pA (K.zA (K.dA (sr (qa ?_))))))
 refine sn (K.ret (et ?_))
 exact K.gives rfl

end Go.Proofs.YtnhhfkgldoeifaaGreatDoor.Sh
end
section
namespace Go.Proofs.YtnhhfkgldoeifaaGreatDoor.Sh
open Go
theorem mapM_some {α β : Type} {g : α → Option β} {f : α → β} : ∀ {l : List α}, (∀ i ∈ l, g i = some (f i)) → l.mapM g = some (l.map f)
 | [], _ => rfl
 | a :: l, h => by
  rw [List.mapM_cons, h a (by simp), mapM_some (fun i hi => h i (by simp [hi]))]; rfl
theorem chunks {α : Type} {R : List α} {s : Nat} : ∀ n, ((List.range n).map fun i => (R.drop (i * s)).take s).flatten = R.take (n * s)
 | 0 => by simp
 | n + 1 => by
  rw [List.range_succ, List.map_append, List.flatten_append, chunks n]
  simp only [List.map_cons, List.map_nil, List.flatten_cons, List.flatten_nil, List.append_nil]
  rw [Nat.add_mul, Nat.one_mul, List.take_add]
def litI (B : List Int) : List Lit := B.map fun n => Lit.int .i64 n
theorem litI_inj {a b : List Int} : litI a = litI b ↔ a = b := by
 constructor
 ·intro h
  unfold litI at h
  exact (List.map_inj_right (fun x y e => by injection e)).1 h
 ·intro h; rw [h]
end Go.Proofs.YtnhhfkgldoeifaaGreatDoor.Sh
end
section
namespace Go.Proofs.YtnhhfkgldoeifaaGreatDoor.Sh
open Go.RowKit Go
open Go.K (setd setn ev nth over cl eI eP eT setM setF)
attribute [local irreducible] K.blk K.row
theorem ul3 : Tryz.prog.underlying 3 = some (.int .i64) := by kernel_rfl
theorem ul92 : Tryz.prog.underlying 92 = some (.array 9 3) := by kernel_rfl
theorem ul94 : Tryz.prog.underlying 94 = some (.array 9 92) := by kernel_rfl
theorem co3 : Tryz.prog.cellsOf 3 = 1 := by kernel_rfl
theorem co92 : Tryz.prog.cellsOf 92 = 9 := by kernel_rfl
theorem co94 : Tryz.prog.cellsOf 94 = 81 := by kernel_rfl
theorem key94 : Tryz.prog.keyTypeAt 10 94 = true := by kernel_rfl
theorem guard94 : Tryz.prog.eqGuardType Tryz.prog.depth 94 = false := by kernel_rfl
theorem mI_cut {R : List Int} {i s : Nat} : ((K.mI R).drop i).take s = K.mI ((R.drop i).take s) := by unfold K.mI; rw [← List.map_drop, ← List.map_take]
theorem lits92 {R : List Int} (hl : R.length = 9) (h : ∀ x ∈ R, -1000000 ≤ x ∧ x ≤ 1000000) : Tryz.prog.keyLits 4 92 (K.mI R) = some (litI R) := by
 unfold Program.keyLits
 rw [ul92]
 have e1 : (K.mI R).length = 9 := by rw [K.mI_len, hl]
 simp only [co92, co3, e1, if_true]
 have e2 : ∀ i ∈ List.range 9, Tryz.prog.keyLits 3 3 (((K.mI R).drop (i * 1)).take 1) = some (((litI R).drop (i * 1)).take 1) := fun i hi => by
  have hi : i < R.length := by have := List.mem_range.1 hi; omega
  have e3 : (R.drop (i * 1)).take 1 = [R[i]] := by
   rw [Nat.mul_one, List.drop_eq_getElem_cons hi]; rfl
  unfold litI
  rw [mI_cut, ← List.map_drop, ← List.map_take, e3]
  have hb := h _ (List.getElem_mem hi)
  exact K.keyLits_i64 ul3 (WalkArith.wf_i64 (by omega))
 rw [mapM_some e2]
 show some _ = _
 rw [chunks 9]
 congr 1
 exact List.take_of_length_le (by unfold litI; simp [hl])
theorem lits94 {R : List Int} (hl : R.length = 81) (h : ∀ x ∈ R, -1000000 ≤ x ∧ x ≤ 1000000) : Tryz.prog.keyLits 5 94 (K.mI R) = some (litI R) := by
 unfold Program.keyLits
 rw [ul94]
 have e1 : (K.mI R).length = 81 := by rw [K.mI_len, hl]
 simp only [co92, co94, e1, if_true]
 have e2 : ∀ i ∈ List.range 9, Tryz.prog.keyLits 4 92 (((K.mI R).drop (i * 9)).take 9) = some (((litI R).drop (i * 9)).take 9) := fun i hi => by
  have hi := List.mem_range.1 hi
  unfold litI
  rw [mI_cut, ← List.map_drop, ← List.map_take]
  exact lits92 (by rw [List.length_take, List.length_drop, hl]; omega) (fun x hx => h x (List.mem_of_mem_drop (List.mem_of_mem_take hx)))
 rw [mapM_some e2]
 show some _ = _
 rw [chunks 9]
 congr 1
 exact List.take_of_length_le (by unfold litI; simp [hl])
theorem form94 {R : List Int} (hl : R.length = 81) : (Value.agg (K.mI R).toArray).formed Tryz.prog 94 = true := by
 unfold Value.formed
 simp only [ul94, co94]
 simp [K.mI_len, hl]
theorem neqM {A B : List Int} (hA : A.length = 81) (hB : B.length = 81) (bA : ∀ x ∈ A, -1000000 ≤ x ∧ x ≤ 1000000) (bB : ∀ x ∈ B, -1000000 ≤ x ∧ x ≤ 1000000) {l : List Value} {d : Option Tmp} {ty yt : TypeId} {ps : String} {af : Array Edge} {g : Option (Nat × Bool)} {x y : Operand} (hx : K.ev l x = .agg (K.mI A).toArray) (hy : K.ev l y = .agg (K.mI B).toArray) :
  K.Pure Tryz.prog ⟨d, .binOp .neq 94 x y yt, ty, ps, af, g⟩ l (.bool (!decide (A = B))) :=
 K.neq_key (m := 5) key94 guard94 hx hy (form94 hA) (form94 hB) (lits94 hA bA) (lits94 hB bB) ⟨_, _, rfl, rfl⟩ (decide (A = B)) (by rw [decide_eq_true_iff, litI_inj])
theorem cl_mem {b : List Int} (c : Cl b) : ∀ x ∈ b, -1000000 ≤ x ∧ x ≤ 1000000 := fun x hx => by
 obtain ⟨j, hj, e⟩ := List.getElem_of_mem hx
 have hn := c.n
 have h := c.lo (i := j / 9) (k := j % 9) (by omega) (by omega)
 unfold bat at h
 rw [show j / 9 * 9 + j % 9 = j by omega, List.getD_eq_getElem?_getD, List.getElem?_eq_getElem hj, e] at h
 have h : -9000 ≤ x ∧ x ≤ 9000 := h
 omega

end Go.Proofs.YtnhhfkgldoeifaaGreatDoor.Sh
end
section
namespace Go.Proofs.YtnhhfkgldoeifaaGreatDoor.Sh
open Go.RowKit Go
open Go.K (setd setn ev nth over cl eI eP eT setM setF)
attribute [local irreducible] K.blk K.row
section
variable {iv lo hi : Int} {nts : List NtT} {f : Nat}
theorem wid_end (h : ¬ hi - lo > 1) : widF iv nts f lo hi = hi := by
 cases f with
 | zero => rfl
 | succ f => unfold widF; rw [if_neg h]
theorem wid_y (h : hi - lo > 1) (h2 : (allB iv nts ((lo + hi) / 2) nts.length).2 = true) : widF iv nts (f + 1) lo hi = widF iv nts f lo ((lo + hi) / 2) := by
 conv => lhs; unfold widF
 rw [if_pos h, if_pos h2]
theorem wid_n (h : hi - lo > 1) (h2 : (allB iv nts ((lo + hi) / 2) nts.length).2 = false) : widF iv nts (f + 1) lo hi = widF iv nts f ((lo + hi) / 2) hi := by
 conv => lhs; unfold widF
 rw [if_pos h, if_neg (by rw [h2]; decide)]
theorem wid_f (h : hi - lo > 1) (h2 : hi - lo ≤ 2 ^ f) : ∃ f', f = f' + 1 ∧ hi - lo ≤ 2 * 2 ^ f' := by
 cases f with
 | zero => simp at h2; omega
 | succ f => exact ⟨f, rfl, by rw [Int.pow_succ] at h2; omega⟩
end

set_option maxRecDepth 100000 in
set_option maxHeartbeats 2000000 in
theorem c28 {iv : Int} {pts : List ByteArray} {nts : List NtT} {A B : Option Addr} {c d : Nat} {w : World} (hP : K.Rd w A 1 eG pts) (hN : K.Rd w B 5 eO nts) (g : GoodS iv pts nts) :
  Calls Tryz.prog 28 [.agg #[.int .i64 iv, .slice A pts.length c, .slice B nts.length d]].toArray w (K.Gives (.tuple #[.int .i64 (widF iv nts 14 (-1) 9000), .int .i64 0]) w) := by
 have hgl := g.l
 refine K.enter (args := [.agg #[.int .i64 iv, .slice A pts.length c, .slice B nts.length d]]) Tryz.func28 rfl (n := 56) rfl ?_
 refine zR ?_
 refine sr ?_
 refine qn (K.box) fun b1 => ?_
 iterate 2 refine qa ?_
 refine sn ?_
 refine K.scope ?_
 refine K.seq (sr (ql (K.jA ag_25 rfl (K.m0) rfl) ?_))
 refine qc (K.nA cal_58 (fun F w hF hw => c58 (hP.pass hw) (hN.pass hw) g)) ?_
 refine qm ?_
 iterate 3 refine qx ?_
 iterate 3 refine qa ?_
 refine sn (sr (qm ?_))
 refine qp (K.Pure.eq (K.neq rfl rfl) (show _ = Value.bool false from rfl)) ?_
 refine sn (K.oA rfl ?_)
 refine K.skip (K.dA (sr ?_))
 iterate 2 refine qa ?_
 refine sn (K.seq ?_)
 refine K.label ?_
 refine K.dA (K.seq (K.block ?_))
 refine K.loopW [7, 8] [9, 10, 11, 12, 13, 23, 24, 25, 26, 27, 28, 29, 30, 31, 32, 33, 34, 35, 36, 37, 38, 39, 40, 41, 42, 43, 44, 45, 46, 47, 48, 49, 50, 51, 52, 53, 54, 55] (fun vi L => ∃ (f : Nat) (lo hi : Int), vi = [.int .i64 lo, .int .i64 hi] ∧ L = [K.blk b1 25 [.int .i64 iv, .slice A pts.length c, .slice B nts.length d]] ∧ -1 ≤ lo ∧ lo < hi ∧ hi ≤ 9000 ∧ hi - lo ≤ 2 ^ f ∧ widF iv nts f lo hi = widF iv nts 14 (-1) 9000) (fun vi => (intOf (K.nth vi 1) - intOf (K.nth vi 0)).toNat) ?_ ?_
 ·exact ⟨14, -1, 9000, rfl, rfl, by decide, by decide, by decide, by decide, rfl⟩
 intro vi vr L hJ
 obtain ⟨f, lo, hi, rfl, rfl, hlo, hlh, hhi, hf, hw⟩ := hJ
 refine zY ?_
 refine K.seq (sr ?_)
 iterate 2 refine qm ?_
 refine qp (K.oB rfl rfl (by omega)) ?_
 refine qp (K.gtr rfl rfl) ?_
 refine sn ?_
 refine K.cond rfl (fun ht26 => ?_) (fun ht26 => ?_)
 ·try replace ht26 := Kq.oT ht26
  obtain ⟨f2, rfl, hf2⟩ := wid_f (by omega) hf
  refine K.skip (K.dA (K.block (sr ?_)))
  iterate 2 refine qm ?_
  refine qp (K.tA rfl rfl (by omega)) ?_
  refine qp (K.quo_i64 rfl rfl (by omega) (by omega) (by omega)) ?_
  refine qa ?_
  refine sn (sr (qc (K.nA cal_62 (fun F w hF hw => c62 w)) ?_))
  refine qn (alloc_mx zr_94m) fun b10 => ?_
  refine qt (K.store_mx sz_94 rfl rfl (mx_len mkB_len) (mx_len zM_len) K.mI_one (K.rp0)) ?_
  refine zN ?_
  refine sn (K.seq (sr (qp (K.aA fo_25_2 rfl) ?_)))
  refine ql (K.fA one_23 rfl (K.m1) rfl) ?_
  refine qp (K.aB sl_23 rfl) ?_
  refine qm ?_
  refine sn (K.block ?_)
  refine K.loopW [7, 35] [11, 12, 13, 36, 37, 38, 39, 40, 41, 42, 43, 44, 45, 46, 47, 48, 49, 50, 51, 52, 53, 54] (fun vi L => ∃ k : Nat, vi = [.int .i64 lo, .int .i64 (k : Int)] ∧ L = [K.blk b10 94 (K.mI (allB iv nts ((lo + hi) / 2) k).1), K.blk b1 25 [.int .i64 iv, .slice A pts.length c, .slice B nts.length d]] ∧ k ≤ nts.length ∧ (allB iv nts ((lo + hi) / 2) k).2 = true) (fun vi => nts.length - (intOf (K.nth vi 1)).toNat) ?_ ?_
  ·exact ⟨0, rfl, rfl, Nat.zero_le _, rfl⟩
  intro vi vr L hJ
  obtain ⟨k, rfl, rfl, hkn, h2⟩ := hJ
  refine zY ?_
  refine sr (qp (K.lss rfl rfl) ?_)
  refine sn (K.seq ?_)
  refine K.cond rfl (fun ht36 => ?_) (fun ht36 => ?_)
  ·try replace ht36 := Kq.oT ht36
   have hk : k < nts.length := by omega
   have hcl := all_c (wd := ((lo + hi) / 2)) g hkn
   have hcl2 := all_c (wd := ((lo + hi) / 2)) g (k := k + 1) (by omega)
   have hs := all_s h2
   rw [hs] at hcl2
   refine K.skip (K.dA (K.seq (K.block (sr (qm ?_)))))
   refine qa ?_
   refine sn (sr (ql (K.jA ag_25 rfl (K.m1) rfl) ?_))
   refine K.mA (K.build (bl117 _ _ _ _ _ _ _)) rfl ?_
   refine zN ?_
   refine ql (K.load_mx uC rfl ((K.m0)) (mx_len hcl.n)) ?_
   iterate 2 refine qm ?_
   refine qc (K.nA cal_63 (fun F w hF hw => c63 (hN.pass hw) g hk (by omega) hcl)) ?_
   refine qm ?_
   iterate 2 refine qx ?_
   refine qn (alloc_mx zr_94m) fun b12 => ?_
   refine qt (K.store_mx sz_94 rfl rfl (mx_len hcl2.n) (mx_len zM_len) K.mI_one (K.rp0)) ?_
   refine zN ?_
   refine qa ?_
   refine sn (K.seq (sr (qm ?_)))
   first | refine K.mA (K.fC rfl) rfl ?_ | refine K.mA (K.not_ rfl) rfl ?_
   refine zN ?_
   refine sn ?_
   refine K.cond rfl (fun ht48 => ?_) (fun ht48 => ?_)
   ·try replace ht48 := Kq.oT ht48
    have hf3 : (wthB iv (allB iv nts ((lo + hi) / 2) k).1 (nts.getD k default) ((lo + hi) / 2)).2 = false := by simpa using ht48
    have hst := all_stop (iv := iv) (wd := ((lo + hi) / 2)) (ns := nts) (k := k + 1) (by rw [hs]; exact hf3) (n := nts.length) (by omega)
    refine sr (qm ?_)
    refine qa ?_
    refine sn (K.exit (K.pA ?_))
    refine K.exit_out rfl ?_
    refine K.pA (K.pA ?_)
    refine K.exit_out rfl ?_
    refine K.pA (K.zA ?_)
    exact K.rA (L'' := [K.blk b1 25 [.int .i64 iv, .slice A pts.length c, .slice B nts.length d]]) [.int .i64 ((lo + hi) / 2), .int .i64 hi] ⟨f2, ((lo + hi) / 2), hi, rfl, rfl, by omega, by omega, by omega, by omega, by rw [← hw, wid_n (by omega) (by rw [hst, hs]; exact hf3)]⟩ (by simp [K.nth, intOf]; omega) (Kq.s1 (Kq.s1 Kq.s0)) (by kernel_rfl)
   try replace ht48 := Kq.oF ht48
   have hf3 : (wthB iv (allB iv nts ((lo + hi) / 2) k).1 (nts.getD k default) ((lo + hi) / 2)).2 = true := by simpa using ht48
   refine K.skip (K.dA (sr (ql (K.load_mx uC rfl ((K.m0)) (mx_len hcl2.n)) ?_)))
   refine ql (K.load_mx uC rfl ((K.m1)) (mx_len hcl.n)) ?_
   refine qp (K.Pure.eq (neqM hcl2.n hcl.n (cl_mem hcl2) (cl_mem hcl) rfl rfl) (show _ = Value.bool (!decide ((wthB iv (allB iv nts ((lo + hi) / 2) k).1 (nts.getD k default) ((lo + hi) / 2)).1 = (allB iv nts ((lo + hi) / 2) k).1)) from rfl)) ?_
   refine sn ?_
   refine K.cond rfl (fun ht52 => ?_) (fun ht52 => ?_)
   ·try replace ht52 := Kq.oT ht52
    refine K.gA (ql (K.load_mx uC rfl ((K.m0)) (mx_len hcl2.n)) ?_)
    refine qt (K.store_mx sz_94 rfl rfl (mx_len hcl2.n) (mx_len hcl.n) K.mI_one (K.rp1)) ?_
    refine zN ?_
    refine K.lA (K.kA (K.dA (K.gA (qp (K.tA rfl rfl (by omega)) ?_))))
    refine qm ?_
    refine K.lA ?_
    exact K.rA (L'' := [K.blk b10 94 (K.mI (allB iv nts ((lo + hi) / 2) (k + 1)).1), K.blk b1 25 [.int .i64 iv, .slice A pts.length c, .slice B nts.length d]]) [.int .i64 lo, .int .i64 ((k : Int) + 1)] ⟨k + 1, rfl, rfl, by omega, by rw [hs]; exact hf3⟩ (by simp [K.nth, intOf]; omega) (by rw [hs]; exact (Kq.s1 Kq.s0)) (by kernel_rfl)
   try replace ht52 := Kq.oF ht52
   have heq : (wthB iv (allB iv nts ((lo + hi) / 2) k).1 (nts.getD k default) ((lo + hi) / 2)).1 = (allB iv nts ((lo + hi) / 2) k).1 := by simpa using ht52
   refine K.skip (K.kA (K.dA (K.gA (qp (K.tA rfl rfl (by omega)) ?_))))
   refine qm ?_
   refine K.lA ?_
   exact K.rA (L'' := [K.blk b10 94 (K.mI (allB iv nts ((lo + hi) / 2) (k + 1)).1), K.blk b1 25 [.int .i64 iv, .slice A pts.length c, .slice B nts.length d]]) [.int .i64 lo, .int .i64 ((k : Int) + 1)] ⟨k + 1, rfl, rfl, by omega, by rw [hs]; exact hf3⟩ (by simp [K.nth, intOf]; omega) (by rw [hs, heq]; exact (Kq.s1 Kq.s0)) (by kernel_rfl)
  try replace ht36 := Kq.oF ht36
  have e0 : k = nts.length := by omega
  subst e0
  refine K.exit (K.pA (K.pA (K.zA (K.dA (K.gA (qm ?_))))))
  refine qa ?_
  refine K.lA (K.kA ?_)
  exact K.rA (L'' := [K.blk b1 25 [.int .i64 iv, .slice A pts.length c, .slice B nts.length d]]) [.int .i64 lo, .int .i64 ((lo + hi) / 2)] ⟨f2, lo, ((lo + hi) / 2), rfl, rfl, by omega, by omega, by omega, by omega, by rw [← hw, wid_y (by omega) h2]⟩ (by simp [K.nth, intOf]; omega) (Kq.s1 Kq.s0) (by kernel_rfl)
 try replace ht26 := Kq.oF ht26
 refine K.exit (K.pA (K.pA (K.zA (K.dA (sr (qm ?_))))))
 iterate 2 refine qa ?_
 refine sn (K.ret ?_)
 refine R.ng_ret ?_
 refine K.wA (fun w _ => K.qB rfl w) ?_
 exact K.gives (by rw [← hw, wid_end (by omega)]; rfl)

end Go.Proofs.YtnhhfkgldoeifaaGreatDoor.Sh
end
