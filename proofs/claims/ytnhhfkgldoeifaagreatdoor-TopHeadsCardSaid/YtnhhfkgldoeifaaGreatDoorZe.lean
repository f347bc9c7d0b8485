/-
  Lemmas and walks of functions, joined and with only what the claim needs.
  Conditions stand in each theorem.
-/
import Derived.Test.YtnhhfkgldoeifaaGreatDoorProg
import Derived.Test.YtnhhfkgldoeifaaGreatDoorRows
import Derived.Below
import Derived.Laws.AppendOwn
import Derived.Laws.Rows
import Derived.Laws.Slices
import Derived.Tactics
import Derived.OrdersHeld
import Derived.KernelRfl
import Derived.WalkKit
import Derived.Deep.AppendLies
import Derived.IntWalk
import Derived.Scope
import Derived.WalkSpells
import Derived.DeepKeys
import Derived.Deep.Upon
import Derived.Laws.Small
import Derived.RangeFuncLeaves
import Derived.RangeFuncSeq
import Derived.OrdersIn
import Derived.Sort.LoopGhostIn
import Derived.TacticsIn
import Derived.RangeFuncOwn
import Derived.WideKeyMaps
import Derived.DeepKeys4
import Derived.Carry
import Derived.Laws.CopyRow
import Derived.WalkArith
import Derived.Laws.Closers25b
import Derived.ProofKit
import Derived.OpenShut
import Derived.LaidMore
import Derived.Lay
import Derived.Stop.Joined
import Derived.Lib.LaidTab
import Derived.Shelf.Strconv.Itoa3
import Derived.ChangeOld
import Derived.SizedLaws
import Derived.Deep.Slices
import Derived.Deep.Fields
import Derived.ChangeSame
import Derived.Lib.SmallJoins
import Derived.Laws.MakeOwn
import Derived.WideLaws
import Derived.Shelf.Small.Strs
import Derived.Shelf.Strings.OnBuilder
import Derived.Shelf.Strings.BuilderK
import Derived.Shelf.Strconv.Atoi
import Derived.Shelf.Strings.Prefix
import Derived.Shelf.Strings.Split
import Derived.Shelf.Strings.Search3
import Derived.Shelf.Slices.Turned
import Derived.Lib.FrozenHead
import Derived.Lib.OthersKept
import Derived.Laws.Concat
import Derived.Lib.AtoiErrMem
import Derived.Lib.ItoaNum
import Derived.Lib.Join
import Derived.RecoverIn
import Derived.Lib.IndexBytes
import Derived.Lib.Bytealg
import Derived.SevenTiedAt
import Derived.Test.YtnhhfkgldoeifaaGreatDoorZd
set_option linter.unusedSimpArgs false
set_option linter.unusedVariables false
section
namespace Go.Proofs.YtnhhfkgldoeifaaGreatDoor.Pn
open Go.RowKit Go
open Go.K (setd setn ev nth over cl eI eP eT setM setF)
attribute [local irreducible] K.blk K.row
theorem bs8 : K.Bs Tryz.prog 26 8 [(0, .int .i64 0), (1, .int .i64 10), (2, .int .i64 0), (3, .int .i64 20), (4, .int .i64 0), (5, .int .i64 0), (6, .int .i64 0), (7, .int .i64 0)] 3 [.int .i64 0, .int .i64 10, .int .i64 0, .int .i64 20, .int .i64 0, .int .i64 0, .int .i64 0, .int .i64 0] := fun w => by kernel_rfl
theorem blO : K.Bl Tryz.prog 48 [(0, .string oakS), (3, .int .i64 30), (4, .int .i64 60)] (.agg #[.string oakS, .int .i64 0, .int .i64 0, .int .i64 30, .int .i64 60]) := fun w => by kernel_rfl
theorem blE : K.Bl Tryz.prog 48 [(0, .string elmS), (1, .int .i64 2), (3, .int .i64 26), (4, .int .i64 100)] (.agg #[.string elmS, .int .i64 2, .int .i64 0, .int .i64 26, .int .i64 100]) := fun w => by kernel_rfl
theorem blA (most : Int) : K.Bl Tryz.prog 48 [(0, .string ashS), (1, .int .i64 3), (3, .int .i64 5), (4, .int .i64 most)] (.agg #[.string ashS, .int .i64 3, .int .i64 0, .int .i64 5, .int .i64 most]) := fun w => by kernel_rfl
theorem bs3P (most : Int) : K.Bs Tryz.prog 27 3 [(0, .agg #[.string oakS, .int .i64 0, .int .i64 0, .int .i64 30, .int .i64 60]), (1, .agg #[.string elmS, .int .i64 2, .int .i64 0, .int .i64 26, .int .i64 100]), (2, .agg #[.string ashS, .int .i64 3, .int .i64 0, .int .i64 5, .int .i64 most])] 48 [.string oakS, .int .i64 0, .int .i64 0, .int .i64 30, .int .i64 60, .string elmS, .int .i64 2, .int .i64 0, .int .i64 26, .int .i64 100, .string ashS, .int .i64 3, .int .i64 0, .int .i64 5, .int .i64 most] := fun w => by kernel_rfl
theorem bl61c : K.Bl Tryz.prog 46 [(0, .int .i64 30), (1, .int .i64 100)] (.agg #[.int .i64 30, .int .i64 100]) := fun w => by kernel_rfl
theorem bl63c : K.Bl Tryz.prog 62 [(0, .int .i64 (-2)), (2, .agg #[.int .i64 30, .int .i64 100])] (.agg #[.int .i64 (-2), .int .i64 0, .int .i64 30, .int .i64 100]) := fun w => by kernel_rfl
theorem bs1S : K.Bs Tryz.prog 28 1 [(0, .agg #[.int .i64 (-2), .int .i64 0, .int .i64 30, .int .i64 100])] 62 [.int .i64 (-2), .int .i64 0, .int .i64 30, .int .i64 100] := fun w => by kernel_rfl
theorem bl26c (a b c : Nat) : K.Bl Tryz.prog 30 [(0, .int .i64 4), (1, .int .i64 2), (2, .slice (some ⟨a, 0, none⟩) 8 8), (3, .slice (some ⟨b, 0, none⟩) 3 3), (4, .slice (some ⟨c, 0, none⟩) 1 1)] (.agg #[.int .i64 4, .int .i64 2, .slice (some ⟨a, 0, none⟩) 8 8, .slice (some ⟨b, 0, none⟩) 3 3, .slice (some ⟨c, 0, none⟩) 1 1]) := fun w => by kernel_rfl
theorem bsI2 (a b : Int) : K.Bs Tryz.prog 26 2 [(0, .int .i64 a), (1, .int .i64 b)] 3 ([a, b].flatMap K.eI) := fun w => by kernel_rfl
theorem bsI1 (a : Int) : K.Bs Tryz.prog 26 1 [(0, .int .i64 a)] 3 ([a].flatMap K.eI) := fun w => by kernel_rfl
theorem bsI3 (a b c : Int) : K.Bs Tryz.prog 26 3 [(0, .int .i64 a), (1, .int .i64 b), (2, .int .i64 c)] 3 ([a, b, c].flatMap K.eI) := fun w => by kernel_rfl

theorem list_ext {a b : List Int} (hl : a.length = b.length) (h : ∀ j, j < a.length → a.getD j default = b.getD j default) : a = b := by
 apply List.ext_getElem hl
 intro i h1 h2
 have := h i h1
 rwa [List.getD_eq_getElem?_getD, List.getD_eq_getElem?_getD, List.getElem?_eq_getElem h1, List.getElem?_eq_getElem h2] at this

set_option maxRecDepth 100000 in
theorem c20 {A B : Option Addr} {c d : Nat} {xs ys : List Int} {w : World} (hX : K.Rd w A 1 K.eI xs) (hY : K.Rd w B 1 K.eI ys) (hn : xs.length ≤ 1000000) (hm : ys.length ≤ 1000000) :
  Calls Tryz.prog 34 [.slice A xs.length c, .slice B ys.length d].toArray w (K.Gives (.bool (decide (xs = ys))) w) := by
 refine K.enter (args := [.slice A xs.length c, .slice B ys.length d]) Tryz.func34 rfl (n := 24) rfl ?_
 refine zR ?_
 refine sr (qa ?_)
 refine sn (K.seq (sr (qm ?_)))
 refine qp (K.aB yB rfl) ?_
 refine qm ?_
 refine qp (K.aB yB rfl) ?_
 refine qp (K.neq rfl rfl) ?_
 refine sn ?_
 refine K.cond rfl (fun ht10 => ?_) (fun ht10 => ?_)
 ·try replace ht10 := Kq.oT ht10
  refine sr (qa ?_)
  refine sn (K.ret (K.iA (et ?_)))
  exact K.pB rfl (by rw [eq_comm, decide_eq_false_iff_not]; intro h; subst h; omega)
 try replace ht10 := Kq.oF ht10
 have hlen : xs.length = ys.length := by omega
 refine K.skip (K.dA (K.seq (sr (qa ?_))))
 refine sn (K.block ?_)
 refine K.loopW [5] [4, 11, 12, 13, 14, 15, 16, 17, 18, 19, 20, 21, 22, 23, 24, 25] (fun vi L => ∃ k : Nat, vi = [.int .i64 (k : Int)] ∧ L = [] ∧ k ≤ xs.length ∧ ∀ j, j < k → xs.getD j default = ys.getD j default) (fun vi => xs.length - (intOf (K.nth vi 0)).toNat) ?_ ?_
 ·exact ⟨0, rfl, rfl, Nat.zero_le _, fun j hj => absurd hj (Nat.not_lt_zero j)⟩
 intro vi vr L hJ
 obtain ⟨k, rfl, rfl, hkn, hall⟩ := hJ
 refine zY ?_
 refine K.seq (sr ?_)
 iterate 2 refine qm ?_
 refine qp (K.aB yB rfl) ?_
 refine qp (K.lss rfl rfl) ?_
 refine sn ?_
 refine K.cond rfl (fun ht14 => ?_) (fun ht14 => ?_)
 ·try replace ht14 := Kq.oT ht14
  have hk : k < xs.length := by omega
  refine K.skip (K.dA (K.seq (K.block (K.seq ?_))))
  refine K.nB [] uA ?_
  refine dp 0 rfl (K.move) ?_
  refine dp 1 rfl (K.move) ?_
  refine K.d_ix (M := []) 2 k rfl hX.sl yB rfl rfl rfl (by omega) (by kernel_rfl) rfl ?_
  intro p19 hp19
  refine zN ?_
  refine dm 3 rfl (K.load1 one_3 rfl hp19.any) ?_
  refine dp 4 rfl (K.move) ?_
  refine dp 5 rfl (K.move) ?_
  refine K.d_ix (M := []) 6 k rfl hY.sl yB rfl rfl rfl (by omega) (by kernel_rfl) rfl ?_
  intro p23 hp23
  refine zN ?_
  refine dm 7 rfl (K.load1 one_3 rfl hp23.any) ?_
  refine dp 8 rfl (K.neq rfl rfl) ?_
  refine dd (K.dA ?_)
  refine K.cond rfl (fun ht25 => ?_) (fun ht25 => ?_)
  ·try replace ht25 := Kq.oT ht25
   refine sr (qa ?_)
   refine sn (K.ret (K.qA (K.iA (K.iA (K.qA (K.iA (et ?_)))))))
   exact K.pB rfl (by rw [eq_comm, decide_eq_false_iff_not]; intro h; rw [h] at ht25; exact ht25 rfl)
  try replace ht25 := Kq.oF ht25
  refine K.skip (K.kA (K.dA (K.gA (qm ?_))))
  refine qp (K.tA rfl rfl (by omega)) ?_
  refine qa ?_
  refine K.lA ?_
  exact K.rA [.int .i64 ((k : Int) + 1)] ⟨k + 1, rfl, rfl, by omega, K.fB hall (Decidable.not_not.1 ht25)⟩ (by simp [K.nth, intOf]; omega) Kq.s0 (by kernel_rfl)
 try replace ht14 := Kq.oF ht14
 refine K.exit (K.pA (K.pA (K.zA (K.dA (sr (qa ?_))))))
 refine sn (K.ret (et ?_))
 exact K.pB rfl (by rw [eq_comm, decide_eq_true_iff]; exact list_ext hlen (fun j hj => hall j (by omega)))

theorem c20t {A B : Option Addr} {c d : Nat} {xs : List Int} {w : World} (hX : K.Rd w A 1 K.eI xs) (hY : K.Rd w B 1 K.eI xs) (hn : xs.length ≤ 1000000) : Calls Tryz.prog 34 [.slice A xs.length c, .slice B xs.length d].toArray w (K.Gives (.bool true) w) := by
 have h := c20 (c := c) (d := d) hX hY hn hn
 rwa [decide_eq_true rfl] at h


set_option maxRecDepth 100000 in
theorem c36 {most : Int} (w : World) :
  Calls Tryz.prog 37 [.int .i64 most].toArray w (K.Ret (fun _ : Nat × Nat × Nat => True) (fun r => .agg #[.int .i64 4, .int .i64 2, .slice (some ⟨r.1, 0, none⟩) 8 8, .slice (some ⟨r.2.1, 0, none⟩) 3 3, .slice (some ⟨r.2.2, 0, none⟩) 1 1]) (fun r => [K.blk r.2.2 62 [.int .i64 (-2), .int .i64 0, .int .i64 30, .int .i64 100], K.blk r.2.1 48 [.string oakS, .int .i64 0, .int .i64 0, .int .i64 30, .int .i64 60, .string elmS, .int .i64 2, .int .i64 0, .int .i64 26, .int .i64 100, .string ashS, .int .i64 3, .int .i64 0, .int .i64 5, .int .i64 most], K.blk r.1 3 [.int .i64 0, .int .i64 10, .int .i64 0, .int .i64 20, .int .i64 0, .int .i64 0, .int .i64 0, .int .i64 0]]) w) := by
 refine K.enter (args := [.int .i64 most]) Tryz.func37 rfl (n := 12) rfl ?_
 refine zR ?_
 refine sr ?_
 refine qn (K.alloc zr_30) fun b2 => ?_
 refine sn (sr ?_)
 refine qn (K.buildSlice (bs8)) fun b3 => ?_
 refine K.mA (K.build (blO)) rfl ?_
 refine zN ?_
 refine K.mA (K.build (blE)) rfl ?_
 refine zN ?_
 refine qm ?_
 refine K.mA (K.build (blA _)) rfl ?_
 refine zN ?_
 refine qn (K.buildSlice (bs3P _)) fun b8 => ?_
 refine K.mA (K.build (bl61c)) rfl ?_
 refine zN ?_
 refine K.mA (K.build (bl63c)) rfl ?_
 refine zN ?_
 refine qn (K.buildSlice (bs1S)) fun b11 => ?_
 refine K.mA (K.build (bl26c _ _ _)) rfl ?_
 refine zN ?_
 refine qt (K.vA sz_30 rfl rfl rfl rfl (K.rp3)) ?_
 refine sn (K.ret ?_)
 refine K.wA (fun w hw => K.res_c rfl rfl (K.run_cellA cC rfl (K.m3) rfl w hw)) ?_
 exact K.rets_v (b3, b8, b11) trivial rfl rfl (Kq.sc (Kq.sc (Kq.sc (List.nil_sublist _))))

end Go.Proofs.YtnhhfkgldoeifaaGreatDoor.Pn
end
section
namespace Go.Proofs.YtnhhfkgldoeifaaGreatDoor.Pn
open Go.RowKit Go
open Go.K (setd setn ev nth over cl eI eP eT setM setF)
attribute [local irreducible] K.blk K.row

theorem ex18 {w : World} {bh bp bs : Nat} (hH : K.Rd w (some ⟨bh, 0, none⟩) 1 K.eI (modS 40).hs) (hP : K.Rd w (some ⟨bp, 0, none⟩) 5 eN (modS 40).ps) (hS : K.Rd w (some ⟨bs, 0, none⟩) 4 eS (modS 40).ss)  : Calls Tryz.prog 38 [.agg #[.int .i64 4, .int .i64 2, .slice (some ⟨bh, 0, none⟩) 8 8, .slice (some ⟨bp, 0, none⟩) 3 3, .slice (some ⟨bs, 0, none⟩) 1 1], .int .i64 0, .int .i64 30, .int .i64 2].toArray w (K.RetSE 3 1 K.eI [0, 2] 0 w) := by
 have h := c18 (m := (modS 40)) (A := some ⟨bh, 0, none⟩) (B := some ⟨bp, 0, none⟩) (C := some ⟨bs, 0, none⟩) (c := 8) (d := 3) (e := 1) (s := 0) (eye := 30) (p := 2) hH hP hS (by decide) (by decide) (by decide) (by decide)
 rw [ex_hid.1, ex_hid.2] at h
 exact h






theorem ex21 {w : World} {bh bp bs : Nat} (hH : K.Rd w (some ⟨bh, 0, none⟩) 1 K.eI (modS 40).hs) (hP : K.Rd w (some ⟨bp, 0, none⟩) 5 eN (modS 40).ps) (hS : K.Rd w (some ⟨bs, 0, none⟩) 4 eS (modS 40).ss) (hT : Tab w) : Calls Tryz.prog 11 [.agg #[.int .i64 4, .int .i64 2, .slice (some ⟨bh, 0, none⟩) 8 8, .slice (some ⟨bp, 0, none⟩) 3 3, .slice (some ⟨bs, 0, none⟩) 1 1], .int .i64 0].toArray w (Ret2 [0] [0, 1, 2] 0 w) := by
 have h := c21 (m := (modS 40)) (A := some ⟨bh, 0, none⟩) (B := some ⟨bp, 0, none⟩) (C := some ⟨bs, 0, none⟩) (c := 8) (d := 3) (e := 1) (s := 0) hH hP hS (by decide) (by decide) (by decide) (by decide) hT
 rw [ex_seen.1, ex_seen.2.1, ex_seen.2.2] at h
 exact h


theorem ex23 {w : World} {bh bp bs : Nat} (hH : K.Rd w (some ⟨bh, 0, none⟩) 1 K.eI (modS 40).hs) (hP : K.Rd w (some ⟨bp, 0, none⟩) 5 eN (modS 40).ps) (hS : K.Rd w (some ⟨bs, 0, none⟩) 4 eS (modS 40).ss)  : Calls Tryz.prog 39 [.agg #[.int .i64 4, .int .i64 2, .slice (some ⟨bh, 0, none⟩) 8 8, .slice (some ⟨bp, 0, none⟩) 3 3, .slice (some ⟨bs, 0, none⟩) 1 1], .int .i64 0, .int .i64 1].toArray w (K.Gives (.tuple #[.int .i64 35, .int .i64 0]) w) := by
 have h := c23 (m := (modS 40)) (A := some ⟨bh, 0, none⟩) (B := some ⟨bp, 0, none⟩) (C := some ⟨bs, 0, none⟩) (c := 8) (d := 3) (e := 1) (s := 0) (p := 1) hH hP hS (by decide) (by decide) (by decide) (by decide)
 rw [ex_eye.1] at h
 exact h






theorem ex26 {w : World} {bh bp bs : Nat} (hH : K.Rd w (some ⟨bh, 0, none⟩) 1 K.eI (modS 40).hs) (hP : K.Rd w (some ⟨bp, 0, none⟩) 5 eN (modS 40).ps) (hS : K.Rd w (some ⟨bs, 0, none⟩) 4 eS (modS 40).ss)  : Calls Tryz.prog 40 [.agg #[.int .i64 4, .int .i64 2, .slice (some ⟨bh, 0, none⟩) 8 8, .slice (some ⟨bp, 0, none⟩) 3 3, .slice (some ⟨bs, 0, none⟩) 1 1]].toArray w (K.RetSE 3 1 K.eI [30, 31, 12] 0 w) := by
 have h := c26 (m := (modS 40)) (A := some ⟨bh, 0, none⟩) (B := some ⟨bp, 0, none⟩) (C := some ⟨bs, 0, none⟩) (c := 8) (d := 3) (e := 1)  hH hP hS (by decide) (by decide) (by decide) (by decide)
 rw [ex_lng.1, ex_lng.2.1] at h
 exact h




theorem ex28 {w : World} {bh bp bs : Nat} (hH : K.Rd w (some ⟨bh, 0, none⟩) 1 K.eI (modS 40).hs) (hP : K.Rd w (some ⟨bp, 0, none⟩) 5 eN (modS 40).ps) (hS : K.Rd w (some ⟨bs, 0, none⟩) 4 eS (modS 40).ss)  : Calls Tryz.prog 41 [.agg #[.int .i64 4, .int .i64 2, .slice (some ⟨bh, 0, none⟩) 8 8, .slice (some ⟨bp, 0, none⟩) 3 3, .slice (some ⟨bs, 0, none⟩) 1 1]].toArray w (K.Gives (.tuple #[.int .i64 0, .int .i64 0, .int .i64 0, .int .i64 0, .int .i64 4]) w) := by
 have h := c28 (m := (modS 40)) (A := some ⟨bh, 0, none⟩) (B := some ⟨bp, 0, none⟩) (C := some ⟨bs, 0, none⟩) (c := 8) (d := 3) (e := 1)  hH hP hS (by decide) (by decide) (by decide) (by decide)
 rw [ex_stuck.1] at h
 exact h


theorem ex28b {w : World} {bh bp bs : Nat} (hH : K.Rd w (some ⟨bh, 0, none⟩) 1 K.eI (modS 11).hs) (hP : K.Rd w (some ⟨bp, 0, none⟩) 5 eN (modS 11).ps) (hS : K.Rd w (some ⟨bs, 0, none⟩) 4 eS (modS 11).ss)  : Calls Tryz.prog 41 [.agg #[.int .i64 4, .int .i64 2, .slice (some ⟨bh, 0, none⟩) 8 8, .slice (some ⟨bp, 0, none⟩) 3 3, .slice (some ⟨bs, 0, none⟩) 1 1]].toArray w (K.Gives (.tuple #[.int .i64 2, .int .i64 2, .int .i64 0, .int .i64 2, .int .i64 0]) w) := by
 have h := c28 (m := (modS 11)) (A := some ⟨bh, 0, none⟩) (B := some ⟨bp, 0, none⟩) (C := some ⟨bs, 0, none⟩) (c := 8) (d := 3) (e := 1)  hH hP hS (by decide) (by decide) (by decide) (by decide)
 rw [ex_stuck.2] at h
 exact h


theorem ex30 {w : World} {bh bp bs : Nat} (hH : K.Rd w (some ⟨bh, 0, none⟩) 1 K.eI (modS 40).hs) (hP : K.Rd w (some ⟨bp, 0, none⟩) 5 eN (modS 40).ps) (hS : K.Rd w (some ⟨bs, 0, none⟩) 4 eS (modS 40).ss) (hT : Tab w) : Calls Tryz.prog 42 [.agg #[.int .i64 4, .int .i64 2, .slice (some ⟨bh, 0, none⟩) 8 8, .slice (some ⟨bp, 0, none⟩) 3 3, .slice (some ⟨bs, 0, none⟩) 1 1], .int .i64 30].toArray w (K.Ret (fun r : Option Addr × Nat => ([0, 1, 2] : List Int).length = 0 ∨ ∃ b, r.1 = some ⟨b, 0, none⟩) (fun r => .tuple #[.int .i64 (-1), .int .i64 (-1), .slice r.1 ([0, 1, 2] : List Int).length r.2, .int .i64 0]) (fun r => [K.row (.slice r.1 ([0, 1, 2] : List Int).length r.2) 3 1 ([0, 1, 2] : List Int).length (([0, 1, 2] : List Int).flatMap K.eI)]) w) := by
 have h := c30 (m := (modS 40)) (A := some ⟨bh, 0, none⟩) (B := some ⟨bp, 0, none⟩) (C := some ⟨bs, 0, none⟩) (c := 8) (d := 3) (e := 1) (eye := 30) hH hP hS (by decide) (by decide) (by decide) (by decide) hT
 rw [ex_best.1, ex_best.2] at h
 exact h


theorem ex34 {w : World} {bh bp bs : Nat} (hH : K.Rd w (some ⟨bh, 0, none⟩) 1 K.eI (modS 40).hs) (hP : K.Rd w (some ⟨bp, 0, none⟩) 5 eN (modS 40).ps) (hS : K.Rd w (some ⟨bs, 0, none⟩) 4 eS (modS 40).ss) (hT : Tab w) : Calls Tryz.prog 43 [.agg #[.int .i64 4, .int .i64 2, .slice (some ⟨bh, 0, none⟩) 8 8, .slice (some ⟨bp, 0, none⟩) 3 3, .slice (some ⟨bs, 0, none⟩) 1 1]].toArray w (K.RetSE 3 1 K.eI [0, 1] 0 w) := by
 have h := c34 (m := (modS 40)) (A := some ⟨bh, 0, none⟩) (B := some ⟨bp, 0, none⟩) (C := some ⟨bs, 0, none⟩) (c := 8) (d := 3) (e := 1)  hH hP hS (by decide) (by decide) (by decide) (by decide) hT
 rw [ex_off, ex_chk] at h
 exact h


theorem ex32 {w : World} {bh bp bs : Nat} (hH : K.Rd w (some ⟨bh, 0, none⟩) 1 K.eI (modS 40).hs) (hP : K.Rd w (some ⟨bp, 0, none⟩) 5 eN (modS 40).ps) (hS : K.Rd w (some ⟨bs, 0, none⟩) 4 eS (modS 40).ss) (hT : Tab w) : Calls Tryz.prog 44 [.agg #[.int .i64 4, .int .i64 2, .slice (some ⟨bh, 0, none⟩) 8 8, .slice (some ⟨bp, 0, none⟩) 3 3, .slice (some ⟨bs, 0, none⟩) 1 1]].toArray w (K.RetSE 3 1 K.eI [] 9 w) := by
 have h := c32 (m := (modS 40)) (A := some ⟨bh, 0, none⟩) (B := some ⟨bp, 0, none⟩) (C := some ⟨bs, 0, none⟩) (c := 8) (d := 3) (e := 1)  hH hP hS (by decide) (by decide) (by decide) (by decide) hT
 rw [(by unfold fewL; rw [if_neg (by rw [ex_chk]; decide), show fewM (modS 40) = none by decide +kernel]; rfl : fewL (modS 40) = []), ex_few.1] at h
 exact h


theorem ex32b {w : World} {bh bp bs : Nat} (hH : K.Rd w (some ⟨bh, 0, none⟩) 1 K.eI (mod1 40).hs) (hP : K.Rd w (some ⟨bp, 0, none⟩) 5 eN (mod1 40).ps) (hS : K.Rd w (some ⟨bs, 0, none⟩) 4 eS (mod1 40).ss) (hT : Tab w) : Calls Tryz.prog 44 [.agg #[.int .i64 4, .int .i64 2, .slice (some ⟨bh, 0, none⟩) 8 8, .slice (some ⟨bp, 0, none⟩) 1 3, .slice (some ⟨bs, 0, none⟩) 1 1]].toArray w (K.RetSE 3 1 K.eI [0] 0 w) := by
 have h := c32 (m := (mod1 40)) (A := some ⟨bh, 0, none⟩) (B := some ⟨bp, 0, none⟩) (C := some ⟨bs, 0, none⟩) (c := 8) (d := 3) (e := 1)  hH hP hS (by decide) (by decide) (by decide) (by decide) hT
 rw [ex_few.2.1, ex_few.2.2] at h
 exact h


set_option maxRecDepth 100000 in
set_option maxHeartbeats 2000000 in
theorem c25 {w : World} (hT : Tab w) :
  Calls Tryz.prog 7 [].toArray w (K.Gives (.bool true) w) := by
 refine K.enter (args := []) Tryz.func7 rfl (n := 196) rfl ?_
 refine zR ?_
 refine sr (qa ?_)
 refine sn (sr (K.gB (K.lB cal_37 (fun F w hF hw => c36 w)) rfl ?_))
 rintro ⟨h1, p1, s1⟩ _
 refine zN ?_
 refine qn (K.alloc zr_30) fun b1 => ?_
 refine qt (K.vA sz_30 rfl rfl rfl rfl (K.rp0)) ?_
 refine sn (sr (ql (K.jA cC rfl (K.m0) rfl) ?_))
 refine K.gB (K.lB cal_38 (fun F w hF hw => ex18 (K.Rd.lit hw (hF _ (K.m3)) (fun _ => rfl) (by decide) rfl) (K.Rd.lit hw (hF _ (K.m2)) (fun _ => rfl) (by decide) rfl) (K.Rd.lit hw (hF _ (K.m1)) (fun _ => rfl) (by decide) rfl))) rfl ?_
 rintro ⟨A1, a1⟩ hq1
 refine zN ?_
 refine qm ?_
 iterate 2 refine qx ?_
 iterate 2 refine qa ?_
 refine sn (sr (ql (K.jA cC rfl (K.m1) rfl) ?_))
 refine K.gB (K.lB cal_11 (fun F w hF hw => ex21 (K.Rd.lit hw (hF _ (K.m4)) (fun _ => rfl) (by decide) rfl) (K.Rd.lit hw (hF _ (K.m3)) (fun _ => rfl) (by decide) rfl) (K.Rd.lit hw (hF _ (K.m2)) (fun _ => rfl) (by decide) rfl) (hT.pass hw))) rfl ?_
 rintro ⟨⟨A2, a2⟩, ⟨A3, a3⟩⟩ ⟨hq2, hq3⟩
 refine zN ?_
 refine qm ?_
 iterate 3 refine qx ?_
 iterate 3 refine qa ?_
 refine sn (sr (ql (K.jA cC rfl (K.m3) rfl) ?_))
 refine qc (K.nA cal_39 (fun F w hF hw => ex23 (K.Rd.lit hw (hF _ (K.m6)) (fun _ => rfl) (by decide) rfl) (K.Rd.lit hw (hF _ (K.m5)) (fun _ => rfl) (by decide) rfl) (K.Rd.lit hw (hF _ (K.m4)) (fun _ => rfl) (by decide) rfl))) ?_
 refine qm ?_
 iterate 2 refine qx ?_
 iterate 2 refine qa ?_
 refine sn (sr (ql (K.jA cC rfl (K.m3) rfl) ?_))
 refine K.gB (K.lB cal_40 (fun F w hF hw => ex26 (K.Rd.lit hw (hF _ (K.m6)) (fun _ => rfl) (by decide) rfl) (K.Rd.lit hw (hF _ (K.m5)) (fun _ => rfl) (by decide) rfl) (K.Rd.lit hw (hF _ (K.m4)) (fun _ => rfl) (by decide) rfl))) rfl ?_
 rintro ⟨A4, a4⟩ hq4
 refine zN ?_
 refine qm ?_
 iterate 2 refine qx ?_
 iterate 2 refine qa ?_
 refine sn (sr (ql (K.jA cC rfl (K.m4) rfl) ?_))
 refine qc (K.nA cal_41 (fun F w hF hw => ex28 (K.Rd.lit hw (hF _ (K.m7)) (fun _ => rfl) (by decide) rfl) (K.Rd.lit hw (hF _ (K.m6)) (fun _ => rfl) (by decide) rfl) (K.Rd.lit hw (hF _ (K.m5)) (fun _ => rfl) (by decide) rfl))) ?_
 refine qm ?_
 iterate 5 refine qx ?_
 iterate 5 refine qa ?_
 refine sn (sr (K.gB (K.lB cal_37 (fun F w hF hw => c36 w)) rfl ?_))
 rintro ⟨h2, p2, s2⟩ _
 refine zN ?_
 refine qc (K.nA cal_41 (fun F w hF hw => ex28b (K.Rd.lit hw (hF _ (K.m2)) (fun _ => rfl) (by decide) rfl) (K.Rd.lit hw (hF _ (K.m1)) (fun _ => rfl) (by decide) rfl) (K.Rd.lit hw (hF _ (K.m0)) (fun _ => rfl) (by decide) rfl))) ?_
 refine qm ?_
 iterate 5 refine qx ?_
 iterate 5 refine qa ?_
 refine sn (sr (ql (K.jA cC rfl (K.m7) rfl) ?_))
 refine K.gB (K.lB cal_42 (fun F w hF hw => ex30 (K.Rd.lit hw (hF _ (K.m10)) (fun _ => rfl) (by decide) rfl) (K.Rd.lit hw (hF _ (K.m9)) (fun _ => rfl) (by decide) rfl) (K.Rd.lit hw (hF _ (K.m8)) (fun _ => rfl) (by decide) rfl) (hT.pass hw))) rfl ?_
 rintro ⟨A5, a5⟩ hq5
 refine zN ?_
 refine qm ?_
 iterate 4 refine qx ?_
 iterate 4 refine qa ?_
 refine sn (sr (ql (K.jA cC rfl (K.m8) rfl) ?_))
 refine K.gB (K.lB cal_43 (fun F w hF hw => ex34 (K.Rd.lit hw (hF _ (K.m11)) (fun _ => rfl) (by decide) rfl) (K.Rd.lit hw (hF _ (K.m10)) (fun _ => rfl) (by decide) rfl) (K.Rd.lit hw (hF _ (K.m9)) (fun _ => rfl) (by decide) rfl) (hT.pass hw))) rfl ?_
 rintro ⟨A6, a6⟩ hq6
 refine zN ?_
 refine qm ?_
 iterate 2 refine qx ?_
 iterate 2 refine qa ?_
 refine sn (sr (ql (K.jA cC rfl (K.m9) rfl) ?_))
 refine K.gB (K.lB cal_44 (fun F w hF hw => ex32 (K.Rd.lit hw (hF _ (K.m12)) (fun _ => rfl) (by decide) rfl) (K.Rd.lit hw (hF _ (K.m11)) (fun _ => rfl) (by decide) rfl) (K.Rd.lit hw (hF _ (K.m10)) (fun _ => rfl) (by decide) rfl) (hT.pass hw))) rfl ?_
 rintro ⟨A7, a7⟩ hq7
 refine zN ?_
 refine qm ?_
 iterate 2 refine qx ?_
 iterate 2 refine qa ?_
 refine sn (sr (qp (K.aA bC rfl) ?_))
 refine ql (K.fA lC rfl (K.m10) rfl) ?_
 refine K.mA (K.slice_hi 1 oC rfl rfl rfl (by decide)) rfl ?_
 refine zN ?_
 refine qp (K.aA bC rfl) ?_
 refine qt (K.store sz_27 rfl rfl rfl rfl (K.rp10)) ?_
 refine sn (sr (ql (K.jA cC rfl (K.m10) rfl) ?_))
 refine K.gB (K.lB cal_44 (fun F w hF hw => ex32b (K.Rd.lit hw (hF _ (K.m13)) (fun _ => rfl) (by decide) rfl) ((K.Rd.lit (e := eN) (size := 5) (xs := (modS 40).ps) hw (hF _ (K.m12)) (fun _ => rfl) (by decide) rfl).take 1) (K.Rd.lit hw (hF _ (K.m11)) (fun _ => rfl) (by decide) rfl) (hT.pass hw))) rfl ?_
 rintro ⟨A8, a8⟩ hq8
 refine zN ?_
 refine qm ?_
 iterate 2 refine qx ?_
 iterate 2 refine qa ?_
 refine sn (sr (qm ?_))
 refine qp (K.Pure.eq (K.eql rfl rfl) (show _ = Value.bool true from congrArg Value.bool (by decide))) ?_
 iterate 2 refine qm ?_
 refine qp (K.Pure.eq (K.eql rfl rfl) (show _ = Value.bool true from congrArg Value.bool (by decide))) ?_
 refine qp (K.sA rfl) ?_
 iterate 2 refine qm ?_
 refine qp (K.Pure.eq (K.eql rfl rfl) (show _ = Value.bool true from congrArg Value.bool (by decide))) ?_
 refine qp (K.sA rfl) ?_
 iterate 2 refine qm ?_
 refine qp (K.Pure.eq (K.eql rfl rfl) (show _ = Value.bool true from congrArg Value.bool (by decide))) ?_
 refine qp (K.sA rfl) ?_
 iterate 2 refine qm ?_
 refine qp (K.Pure.eq (K.eql rfl rfl) (show _ = Value.bool true from congrArg Value.bool (by decide))) ?_
 refine qp (K.sA rfl) ?_
 iterate 2 refine qm ?_
 refine qp (K.Pure.eq (K.eql rfl rfl) (show _ = Value.bool true from congrArg Value.bool (by decide))) ?_
 refine qp (K.sA rfl) ?_
 iterate 2 refine qm ?_
 refine qp (K.Pure.eq (K.eql rfl rfl) (show _ = Value.bool true from congrArg Value.bool (by decide))) ?_
 refine qp (K.sA rfl) ?_
 iterate 2 refine qm ?_
 refine qp (K.Pure.eq (K.eql rfl rfl) (show _ = Value.bool true from congrArg Value.bool (by decide))) ?_
 refine qp (K.sA rfl) ?_
 iterate 2 refine qm ?_
 refine qp (K.Pure.eq (K.eql rfl rfl) (show _ = Value.bool true from congrArg Value.bool (by decide))) ?_
 refine qp (K.sA rfl) ?_
 iterate 2 refine qm ?_
 refine qp (K.Pure.eq (K.eql rfl rfl) (show _ = Value.bool true from congrArg Value.bool (by decide))) ?_
 refine qp (K.sA rfl) ?_
 iterate 2 refine qm ?_
 refine qn (K.buildSlice (bsI2 _ _)) fun b135 => ?_
 refine qc (K.nA cal_34 (fun F w hF hw => c20t (xs := [0, 2]) (K.Rd.own (e := K.eI) hw (hF _ (K.m11)) hq1 (fun _ => rfl) (by decide)) (K.Rd.lit hw (hF _ (K.m0)) (fun _ => rfl) (by decide) rfl) (by decide))) ?_
 refine qp (K.sA rfl) ?_
 iterate 2 refine qm ?_
 refine qn (K.buildSlice (bsI1 _)) fun b140 => ?_
 refine qc (K.nA cal_34 (fun F w hF hw => c20t (xs := [0]) (K.Rd.own (e := K.eI) hw (hF _ (K.m11)) hq2 (fun _ => rfl) (by decide)) (K.Rd.lit hw (hF _ (K.m0)) (fun _ => rfl) (by decide) rfl) (by decide))) ?_
 refine qp (K.sA rfl) ?_
 iterate 2 refine qm ?_
 refine qn (K.buildSlice (bsI3 _ _ _)) fun b145 => ?_
 refine qc (K.nA cal_34 (fun F w hF hw => c20t (xs := [0, 1, 2]) (K.Rd.own (e := K.eI) hw (hF _ (K.m11)) hq3 (fun _ => rfl) (by decide)) (K.Rd.lit hw (hF _ (K.m0)) (fun _ => rfl) (by decide) rfl) (by decide))) ?_
 refine qp (K.sA rfl) ?_
 iterate 2 refine qm ?_
 refine qp (K.Pure.eq (K.eql rfl rfl) (show _ = Value.bool true from congrArg Value.bool (by decide))) ?_
 refine qp (K.sA rfl) ?_
 iterate 2 refine qm ?_
 refine qn (K.buildSlice (bsI3 _ _ _)) fun b154 => ?_
 refine qc (K.nA cal_34 (fun F w hF hw => c20t (xs := [30, 31, 12]) (K.Rd.own (e := K.eI) hw (hF _ (K.m11)) hq4 (fun _ => rfl) (by decide)) (K.Rd.lit hw (hF _ (K.m0)) (fun _ => rfl) (by decide) rfl) (by decide))) ?_
 refine qp (K.sA rfl) ?_
 iterate 2 refine qm ?_
 refine qp (K.Pure.eq (K.eql rfl rfl) (show _ = Value.bool true from congrArg Value.bool (by decide))) ?_
 refine qp (K.sA rfl) ?_
 iterate 2 refine qm ?_
 refine qp (K.Pure.eq (K.eql rfl rfl) (show _ = Value.bool true from congrArg Value.bool (by decide))) ?_
 refine qp (K.sA rfl) ?_
 iterate 2 refine qm ?_
 refine qp (K.Pure.eq (K.eql rfl rfl) (show _ = Value.bool true from congrArg Value.bool (by decide))) ?_
 refine qp (K.sA rfl) ?_
 iterate 2 refine qm ?_
 refine qp (K.Pure.eq (K.eql rfl rfl) (show _ = Value.bool true from congrArg Value.bool (by decide))) ?_
 refine qp (K.sA rfl) ?_
 iterate 2 refine qm ?_
 refine qp (K.Pure.eq (K.eql rfl rfl) (show _ = Value.bool true from congrArg Value.bool (by decide))) ?_
 refine qp (K.sA rfl) ?_
 iterate 2 refine qm ?_
 refine qp (K.Pure.eq (K.eql rfl rfl) (show _ = Value.bool true from congrArg Value.bool (by decide))) ?_
 refine qp (K.sA rfl) ?_
 iterate 2 refine qm ?_
 refine qn (K.buildSlice (bsI3 _ _ _)) fun b183 => ?_
 refine qc (K.nA cal_34 (fun F w hF hw => c20t (xs := [0, 1, 2]) (K.Rd.own (e := K.eI) hw (hF _ (K.m8)) hq5 (fun _ => rfl) (by decide)) (K.Rd.lit hw (hF _ (K.m0)) (fun _ => rfl) (by decide) rfl) (by decide))) ?_
 refine qp (K.sA rfl) ?_
 iterate 2 refine qm ?_
 refine qn (K.buildSlice (bsI2 _ _)) fun b188 => ?_
 refine qc (K.nA cal_34 (fun F w hF hw => c20t (xs := [0, 1]) (K.Rd.own (e := K.eI) hw (hF _ (K.m8)) hq6 (fun _ => rfl) (by decide)) (K.Rd.lit hw (hF _ (K.m0)) (fun _ => rfl) (by decide) rfl) (by decide))) ?_
 refine qp (K.sA rfl) ?_
 iterate 2 refine qm ?_
 refine qn (K.buildSlice (bsI1 _)) fun b193 => ?_
 refine qc (K.nA cal_34 (fun F w hF hw => c20t (xs := [0]) (K.Rd.own (e := K.eI) hw (hF _ (K.m7)) hq8 (fun _ => rfl) (by decide)) (K.Rd.lit hw (hF _ (K.m0)) (fun _ => rfl) (by decide) rfl) (by decide))) ?_
 refine qp (K.sA rfl) ?_
 refine qa ?_
 refine sn (K.ret (et ?_))
 exact K.gives rfl

end Go.Proofs.YtnhhfkgldoeifaaGreatDoor.Pn
end
section
namespace Go.Proofs.YtnhhfkgldoeifaaGreatDoor.Sh
open Go.RowKit Go
open Go.K (setd setn ev nth over cl eI eP eT setM setF)
attribute [local irreducible] K.blk K.row
theorem bl46 (a b : Int) : K.Bl Tryz.prog 46 [(0, .int .i64 a), (1, .int .i64 b)] (.agg #[.int .i64 a, .int .i64 b]) := fun w => by kernel_rfl
theorem bl58 (k a b l h : Int) : K.Bl Tryz.prog 58 [(0, .int .i64 k), (1, .int .i64 a), (2, .int .i64 b), (3, .agg #[.int .i64 l, .int .i64 h])] (.agg #[.int .i64 k, .int .i64 a, .int .i64 b, .int .i64 l, .int .i64 h]) := fun w => by kernel_rfl
theorem bs23 (k a b l h : Int) : K.Bs Tryz.prog 23 1 [(0, .agg #[.int .i64 k, .int .i64 a, .int .i64 b, .int .i64 l, .int .i64 h])] 58 [.int .i64 k, .int .i64 a, .int .i64 b, .int .i64 l, .int .i64 h] := fun w => by kernel_rfl
theorem bsI (a : Int) : K.Bs Tryz.prog 26 1 [(0, .int .i64 a)] 3 [.int .i64 a] := fun w => by kernel_rfl
theorem ik_152 : K.ik Tryz.prog 152 = some .u16 := by kernel_rfl
@[reducible] def eH (z : Int) : List Value := [.int .u16 z]
theorem spr_rng {a b l h : Int} : Pn.spreadE l h [(a, b)] = rngE a b l h := by
 unfold Pn.spreadE rngE
 simp only [List.any_cons, List.any_nil, Bool.or_false, decide_eq_true_eq]
theorem c94r {a b low high : Int} (w : World) : Calls Tryz.prog 55 [.agg #[.int .i64 a, .int .i64 b], .int .i64 low, .int .i64 high].toArray w (K.Gives (.int .i64 (rngE a b low high)) w) := by
 have h := Pn.c94 (a := a) (b := b) (low := low) (high := high) w
 rw [spr_rng] at h
 exact h
theorem c58n {A : Option Addr} {c n : Nat} {l : List ByteArray} {s : ByteArray} {w : World} (hX : K.Rd w A 1 eG l) (hl : l.length = n) (hn : n ≤ 4611686018427387904) : Calls Tryz.prog 15 [.string s, .slice A n c].toArray w (K.Gives (.int .i64 (Pn.freshE s l)) w) := by
 subst hl
 exact Pn.c58 hX hn

set_option maxRecDepth 100000 in
set_option maxHeartbeats 1000000 in
theorem c16 {iv : Int} {pts : List ByteArray} {nts : List NtT} {A B : Option Addr} {c d : Nat} {x : NtT} {w : World} (hi : 1 ≤ iv ∧ iv ≤ 1000) (hn : pts.length ≤ 4611686018427387904) :
  Calls Tryz.prog 16 [.agg #[.int .i64 iv, .slice A pts.length c, .slice B nts.length d], .agg #[.int .i64 x.kd, .int .i64 x.a, .int .i64 x.b, .int .i64 x.lo, .int .i64 x.hi]].toArray w (K.Gives (.int .i64 (ntE iv pts.length x)) w) := by
 refine K.enter (args := [.agg #[.int .i64 iv, .slice A pts.length c, .slice B nts.length d], .agg #[.int .i64 x.kd, .int .i64 x.a, .int .i64 x.b, .int .i64 x.lo, .int .i64 x.hi]]) Tryz.func16 rfl (n := 88) rfl ?_
 refine zR ?_
 refine sr ?_
 refine qn (K.box) fun b2 => ?_
 refine qn (K.box) fun b3 => ?_
 refine qa ?_
 refine sn (K.seq (sr (qp (K.aA fo_58_0 rfl) ?_)))
 refine ql (K.fA one_3 rfl (K.m0) rfl) ?_
 refine qc (K.nA cal_14 (fun F w hF hw => Pn.c106 w)) ?_
 first | refine K.mA (K.fC rfl) rfl ?_ | refine K.mA (K.not_ rfl) rfl ?_
 refine zN ?_
 refine sn ?_
 refine K.cond rfl (fun ht10 => ?_) (fun ht10 => ?_)
 ·try replace ht10 := Kq.oT ht10
  refine sr (qa ?_)
  refine sn (K.ret (K.iA (et ?_)))
  exact K.xA rfl (ne_6 (by omega)).symm
 try replace ht10 := Kq.oF ht10
 refine K.skip (K.dA (K.seq (sr (qp (K.aA fo_58_1 rfl) ?_))))
 refine ql (K.fA one_3 rfl (K.m0) rfl) ?_
 refine qp (K.aA fo_25_1 rfl) ?_
 refine ql (K.fA one_22 rfl (K.m1) rfl) ?_
 refine qp (K.aB sl_22 rfl) ?_
 refine qp (K.oB rfl rfl (by omega)) ?_
 refine qc (K.nA cal_14 (fun F w hF hw => Pn.c106 w)) ?_
 first | refine K.mA (K.fC rfl) rfl ?_ | refine K.mA (K.not_ rfl) rfl ?_
 refine zN ?_
 refine qm ?_
 refine K.split 19 rfl (fun hg19 => ?_) (fun hg19 => ?_)
 ·try replace hg19 := Kq.oT hg19
  iterate 8 refine qs ?_
  refine qp (K.sA rfl) ?_
  refine sn (K.yA rfl ?_)
  refine sr (qa ?_)
  refine sn (K.ret (K.iA (et ?_)))
  exact K.xA rfl (ne_4 (by omega) (by omega)).symm
 try replace hg19 := Kq.oF hg19
 refine qp (K.aA fo_58_2 rfl) ?_
 refine ql (K.fA one_3 rfl (K.m0) rfl) ?_
 refine qp (K.aA fo_25_1 rfl) ?_
 refine ql (K.fA one_22 rfl (K.m1) rfl) ?_
 refine qp (K.aB sl_22 rfl) ?_
 refine qp (K.oB rfl rfl (by omega)) ?_
 refine qc (K.nA cal_14 (fun F w hF hw => Pn.c106 w)) ?_
 first | refine K.mA (K.fC rfl) rfl ?_ | refine K.mA (K.not_ rfl) rfl ?_
 refine zN ?_
 refine qp (K.dB rfl) ?_
 refine sn ?_
 refine K.cond rfl (fun ht28 => ?_) (fun ht28 => ?_)
 ·try replace ht28 := Kq.oT ht28
  refine sr (qa ?_)
  refine sn (K.ret (K.iA (et ?_)))
  first
   | (exfalso; omega)
   | exact K.xA rfl (ne_4 (by omega) (by omega)).symm
   | exact K.xA rfl (ne_2 (by omega) (by omega) (by omega)).symm
   | exact gI rfl
 try replace ht28 := Kq.oF ht28
 refine K.skip (K.dA (sr (qp (K.aA fo_58_0 rfl) ?_)))
 refine ql (K.fA one_3 rfl (K.m0) rfl) ?_
 refine qp (K.eql rfl rfl) ?_
 refine qm ?_
 refine K.split 32 rfl (fun hg32 => ?_) (fun hg32 => ?_)
 ·try replace hg32 := Kq.oT hg32
  iterate 3 refine qs ?_
  refine qp (K.sA rfl) ?_
  refine qa ?_
  refine sn (K.seq (sr ?_))
  iterate 2 refine qm ?_
  refine qp (K.aA fo_58_1 rfl) ?_
  refine ql (K.fA one_3 rfl (K.m0) rfl) ?_
  refine qp (K.aA fo_58_2 rfl) ?_
  refine ql (K.fA one_3 rfl (K.m0) rfl) ?_
  refine qp (K.eql rfl rfl) ?_
  refine qp (K.sA rfl) ?_
  refine qm ?_
  refine K.split 45 rfl (fun hg45 => ?_) (fun hg45 => ?_)
  ·try replace hg45 := Kq.oT hg45
   iterate 7 refine qs ?_
   refine qp (K.sA rfl) ?_
   refine sn (K.yA rfl ?_)
   refine sr (qa ?_)
   refine sn (K.ret (K.iA (et ?_)))
   first
    | (exfalso; omega)
    | exact K.xA rfl (ne_4 (by omega) (by omega)).symm
    | exact K.xA rfl (ne_2 (by omega) (by omega) (by omega)).symm
    | exact gI rfl
  try replace hg45 := Kq.oF hg45
  refine qm ?_
  first | refine K.mA (K.fC rfl) rfl ?_ | refine K.mA (K.not_ rfl) rfl ?_
  refine zN ?_
  refine qm ?_
  iterate 3 refine qs ?_
  refine qp (K.dB rfl) ?_
  refine qp (K.dB rfl) ?_
  refine sn (K.oA rfl ?_)
  refine K.skip (K.dA (K.seq (sr (qp (K.aA fo_58_0 rfl) ?_))))
  refine ql (K.fA one_3 rfl (K.m0) rfl) ?_
  refine qp (K.eql rfl rfl) ?_
  refine sn ?_
  refine K.cond rfl (fun ht56 => ?_) (fun ht56 => ?_)
  ·try replace ht56 := Kq.oT ht56
   refine sr (qp (K.aA fo_58_3 rfl) ?_)
   refine ql (K.jA kC rfl (K.m0) rfl) ?_
   refine qc (K.nA cal_55 (fun F w hF hw => c94r w)) ?_
   refine qa ?_
   refine sn (K.ret (K.iA (et ?_)))
   first
    | (exfalso; omega)
    | exact K.xA rfl (ne_4 (by omega) (by omega)).symm
    | exact K.xA rfl (ne_2 (by omega) (by omega) (by omega)).symm
    | exact gI rfl
  try replace ht56 := Kq.oF ht56
  refine K.skip (K.dA (K.seq (sr (qp (K.aA fo_58_0 rfl) ?_))))
  refine ql (K.fA one_3 rfl (K.m0) rfl) ?_
  refine qp (K.eql rfl rfl) ?_
  refine sn ?_
  refine K.cond rfl (fun ht62 => ?_) (fun ht62 => ?_)
  ·try replace ht62 := Kq.oT ht62
   refine sr (qp (K.aA fo_58_3 rfl) ?_)
   refine ql (K.jA kC rfl (K.m0) rfl) ?_
   refine qc (K.nA cal_55 (fun F w hF hw => c94r w)) ?_
   refine qa ?_
   refine sn (K.ret (K.iA (et ?_)))
   first
    | (exfalso; omega)
    | exact K.xA rfl (ne_4 (by omega) (by omega)).symm
    | exact K.xA rfl (ne_2 (by omega) (by omega) (by omega)).symm
    | exact gI rfl
  try replace ht62 := Kq.oF ht62
  refine K.skip (K.dA (K.seq (sr (qp (K.aA fo_58_0 rfl) ?_))))
  refine ql (K.fA one_3 rfl (K.m0) rfl) ?_
  refine qp (K.eql rfl rfl) ?_
  refine sn ?_
  refine K.cond rfl (fun ht68 => ?_) (fun ht68 => ?_)
  ·try replace ht68 := Kq.oT ht68
   refine sr (qp (K.aA fo_58_3 rfl) ?_)
   refine ql (K.jA kC rfl (K.m0) rfl) ?_
   refine qc (K.nA cal_55 (fun F w hF hw => c94r w)) ?_
   refine qa ?_
   refine sn (K.ret (K.iA (et ?_)))
   first
    | (exfalso; omega)
    | exact K.xA rfl (ne_4 (by omega) (by omega)).symm
    | exact K.xA rfl (ne_2 (by omega) (by omega) (by omega)).symm
    | exact gI rfl
  try replace ht68 := Kq.oF ht68
  refine K.skip (K.dA (K.seq ?_))
  refine K.nB [] uA ?_
  refine dp 0 rfl (K.aA fo_58_3 rfl) ?_
  refine dm 1 rfl (K.jA kC rfl (K.m0) rfl) ?_
  refine dp 2 rfl (K.aA fo_25_0 rfl) ?_
  refine dm 3 rfl (K.fA one_3 rfl (K.m1) rfl) ?_
  refine dp 4 rfl (K.quo_i64 rfl rfl (by omega) (by omega) (by omega)) ?_
  refine K.kB 5 rfl (K.nA cal_55 (fun F w hF hw => c94r w)) (fun _ h => h) (by kernel_rfl) rfl ?_
  refine zN ?_
  refine dp 6 rfl (K.assign) ?_
  refine dd (K.dA (K.seq (sr (qm ?_))))
  refine qp (K.eql rfl rfl) ?_
  refine qm ?_
  refine K.split 80 rfl (fun hg80 => ?_) (fun hg80 => ?_)
  ·try replace hg80 := Kq.oT hg80
   refine qp (K.aA fo_58_3 rfl) ?_
   refine qp (K.aA fo_46_0 rfl) ?_
   refine ql (K.fA one_3 rfl (K.m0) rfl) ?_
   refine qp (K.aA fo_58_3 rfl) ?_
   refine qp (K.aA fo_46_1 rfl) ?_
   refine ql (K.fA one_3 rfl (K.m0) rfl) ?_
   refine qp (K.eql rfl rfl) ?_
   refine qp (K.sA rfl) ?_
   refine sn ?_
   refine K.cond rfl (fun ht88 => ?_) (fun ht88 => ?_)
   ·try replace ht88 := Kq.oT ht88
    refine K.gA (qa ?_)
    refine sn (sr (qm ?_))
    refine qa ?_
    refine sn (K.ret (et ?_))
    first
     | (exfalso; omega)
     | exact K.xA rfl (ne_4 (by omega) (by omega)).symm
     | exact K.xA rfl (ne_2 (by omega) (by omega) (by omega)).symm
     | exact gI rfl
   try replace ht88 := Kq.oF ht88
   refine K.skip (K.dA (sr (qm ?_)))
   refine qa ?_
   refine sn (K.ret (et ?_))
   first
    | (exfalso; omega)
    | exact K.xA rfl (ne_4 (by omega) (by omega)).symm
    | exact K.xA rfl (ne_2 (by omega) (by omega) (by omega)).symm
    | exact gI rfl
  try replace hg80 := Kq.oF hg80
  iterate 7 refine qs ?_
  refine qp (K.dB rfl) ?_
  refine sn (K.oA rfl ?_)
  refine K.skip (K.dA (sr (qm ?_)))
  refine qa ?_
  refine sn (K.ret (et ?_))
  first
   | (exfalso; omega)
   | exact K.xA rfl (ne_4 (by omega) (by omega)).symm
   | exact K.xA rfl (ne_2 (by omega) (by omega) (by omega)).symm
   | exact gI rfl
 try replace hg32 := Kq.oF hg32
 refine qp (K.aA fo_58_0 rfl) ?_
 refine ql (K.fA one_3 rfl (K.m0) rfl) ?_
 refine qp (K.eql rfl rfl) ?_
 refine qp (K.dB rfl) ?_
 refine qa ?_
 refine sn (K.seq (sr ?_))
 iterate 2 refine qm ?_
 refine K.split 38 rfl (fun hg38 => ?_) (fun hg38 => ?_)
 ·try replace hg38 := Kq.oT hg38
  refine qp (K.aA fo_58_1 rfl) ?_
  refine ql (K.fA one_3 rfl (K.m0) rfl) ?_
  refine qp (K.aA fo_58_2 rfl) ?_
  refine ql (K.fA one_3 rfl (K.m0) rfl) ?_
  refine qp (K.eql rfl rfl) ?_
  refine qp (K.sA rfl) ?_
  refine qm ?_
  refine K.split 45 rfl (fun hg45 => ?_) (fun hg45 => ?_)
  ·try replace hg45 := Kq.oT hg45
   iterate 7 refine qs ?_
   refine qp (K.sA rfl) ?_
   refine sn (K.yA rfl ?_)
   refine sr (qa ?_)
   refine sn (K.ret (K.iA (et ?_)))
   first
    | (exfalso; omega)
    | exact K.xA rfl (ne_4 (by omega) (by omega)).symm
    | exact K.xA rfl (ne_2 (by omega) (by omega) (by omega)).symm
    | exact gI rfl
  try replace hg45 := Kq.oF hg45
  refine qm ?_
  first | refine K.mA (K.fC rfl) rfl ?_ | refine K.mA (K.not_ rfl) rfl ?_
  refine zN ?_
  refine qm ?_
  refine K.split 48 rfl (fun hg48 => ?_) (fun hg48 => ?_)
  ·try replace hg48 := Kq.oT hg48
   refine qp (K.aA fo_58_2 rfl) ?_
   refine ql (K.fA one_3 rfl (K.m0) rfl) ?_
   refine qp (K.neq rfl rfl) ?_
   refine qp (K.sA rfl) ?_
   refine qp (K.dB rfl) ?_
   refine sn ?_
   refine K.cond rfl (fun ht53 => ?_) (fun ht53 => ?_)
   ·try replace ht53 := Kq.oT ht53
    refine sr (qa ?_)
    refine sn (K.ret (K.iA (et ?_)))
    first
     | (exfalso; omega)
     | exact K.xA rfl (ne_4 (by omega) (by omega)).symm
     | exact K.xA rfl (ne_2 (by omega) (by omega) (by omega)).symm
     | exact gI rfl
   try replace ht53 := Kq.oF ht53
   refine K.skip (K.dA (K.seq (sr (qp (K.aA fo_58_0 rfl) ?_))))
   refine ql (K.fA one_3 rfl (K.m0) rfl) ?_
   refine qp (K.eql rfl rfl) ?_
   refine sn ?_
   refine K.cond rfl (fun ht56 => ?_) (fun ht56 => ?_)
   ·try replace ht56 := Kq.oT ht56
    refine sr (qp (K.aA fo_58_3 rfl) ?_)
    refine ql (K.jA kC rfl (K.m0) rfl) ?_
    refine qc (K.nA cal_55 (fun F w hF hw => c94r w)) ?_
    refine qa ?_
    refine sn (K.ret (K.iA (et ?_)))
    first
     | (exfalso; omega)
     | exact K.xA rfl (ne_4 (by omega) (by omega)).symm
     | exact K.xA rfl (ne_2 (by omega) (by omega) (by omega)).symm
     | exact gI rfl
   try replace ht56 := Kq.oF ht56
   refine K.skip (K.dA (K.seq (sr (qp (K.aA fo_58_0 rfl) ?_))))
   refine ql (K.fA one_3 rfl (K.m0) rfl) ?_
   refine qp (K.eql rfl rfl) ?_
   refine sn ?_
   refine K.cond rfl (fun ht62 => ?_) (fun ht62 => ?_)
   ·try replace ht62 := Kq.oT ht62
    refine sr (qp (K.aA fo_58_3 rfl) ?_)
    refine ql (K.jA kC rfl (K.m0) rfl) ?_
    refine qc (K.nA cal_55 (fun F w hF hw => c94r w)) ?_
    refine qa ?_
    refine sn (K.ret (K.iA (et ?_)))
    first
     | (exfalso; omega)
     | exact K.xA rfl (ne_4 (by omega) (by omega)).symm
     | exact K.xA rfl (ne_2 (by omega) (by omega) (by omega)).symm
     | exact gI rfl
   try replace ht62 := Kq.oF ht62
   refine K.skip (K.dA (K.seq (sr (qp (K.aA fo_58_0 rfl) ?_))))
   refine ql (K.fA one_3 rfl (K.m0) rfl) ?_
   refine qp (K.eql rfl rfl) ?_
   refine sn ?_
   refine K.cond rfl (fun ht68 => ?_) (fun ht68 => ?_)
   ·try replace ht68 := Kq.oT ht68
    refine sr (qp (K.aA fo_58_3 rfl) ?_)
    refine ql (K.jA kC rfl (K.m0) rfl) ?_
    refine qc (K.nA cal_55 (fun F w hF hw => c94r w)) ?_
    refine qa ?_
    refine sn (K.ret (K.iA (et ?_)))
    first
     | (exfalso; omega)
     | exact K.xA rfl (ne_4 (by omega) (by omega)).symm
     | exact K.xA rfl (ne_2 (by omega) (by omega) (by omega)).symm
     | exact gI rfl
   try replace ht68 := Kq.oF ht68
   refine K.skip (K.dA (K.seq ?_))
   refine K.nB [] uA ?_
   refine dp 0 rfl (K.aA fo_58_3 rfl) ?_
   refine dm 1 rfl (K.jA kC rfl (K.m0) rfl) ?_
   refine dp 2 rfl (K.aA fo_25_0 rfl) ?_
   refine dm 3 rfl (K.fA one_3 rfl (K.m1) rfl) ?_
   refine dp 4 rfl (K.quo_i64 rfl rfl (by omega) (by omega) (by omega)) ?_
   refine K.kB 5 rfl (K.nA cal_55 (fun F w hF hw => c94r w)) (fun _ h => h) (by kernel_rfl) rfl ?_
   refine zN ?_
   refine dp 6 rfl (K.assign) ?_
   refine dd (K.dA (K.seq (sr (qm ?_))))
   refine qp (K.eql rfl rfl) ?_
   refine qm ?_
   refine K.split 80 rfl (fun hg80 => ?_) (fun hg80 => ?_)
   ·try replace hg80 := Kq.oT hg80
    refine qp (K.aA fo_58_3 rfl) ?_
    refine qp (K.aA fo_46_0 rfl) ?_
    refine ql (K.fA one_3 rfl (K.m0) rfl) ?_
    refine qp (K.aA fo_58_3 rfl) ?_
    refine qp (K.aA fo_46_1 rfl) ?_
    refine ql (K.fA one_3 rfl (K.m0) rfl) ?_
    refine qp (K.eql rfl rfl) ?_
    refine qp (K.sA rfl) ?_
    refine sn ?_
    refine K.cond rfl (fun ht88 => ?_) (fun ht88 => ?_)
    ·try replace ht88 := Kq.oT ht88
     refine K.gA (qa ?_)
     refine sn (sr (qm ?_))
     refine qa ?_
     refine sn (K.ret (et ?_))
     first
      | (exfalso; omega)
      | exact K.xA rfl (ne_4 (by omega) (by omega)).symm
      | exact K.xA rfl (ne_2 (by omega) (by omega) (by omega)).symm
      | exact gI rfl
    try replace ht88 := Kq.oF ht88
    refine K.skip (K.dA (sr (qm ?_)))
    refine qa ?_
    refine sn (K.ret (et ?_))
    first
     | (exfalso; omega)
     | exact K.xA rfl (ne_4 (by omega) (by omega)).symm
     | exact K.xA rfl (ne_2 (by omega) (by omega) (by omega)).symm
     | exact gI rfl
   try replace hg80 := Kq.oF hg80
   iterate 7 refine qs ?_
   refine qp (K.dB rfl) ?_
   refine sn (K.oA rfl ?_)
   refine K.skip (K.dA (sr (qm ?_)))
   refine qa ?_
   refine sn (K.ret (et ?_))
   first
    | (exfalso; omega)
    | exact K.xA rfl (ne_4 (by omega) (by omega)).symm
    | exact K.xA rfl (ne_2 (by omega) (by omega) (by omega)).symm
    | exact gI rfl
  try replace hg48 := Kq.oF hg48
  iterate 3 refine qs ?_
  refine qp (K.dB rfl) ?_
  refine qp (K.dB rfl) ?_
  refine sn (K.oA rfl ?_)
  refine K.skip (K.dA (K.seq (sr (qp (K.aA fo_58_0 rfl) ?_))))
  refine ql (K.fA one_3 rfl (K.m0) rfl) ?_
  refine qp (K.eql rfl rfl) ?_
  refine sn ?_
  refine K.cond rfl (fun ht56 => ?_) (fun ht56 => ?_)
  ·try replace ht56 := Kq.oT ht56
   refine sr (qp (K.aA fo_58_3 rfl) ?_)
   refine ql (K.jA kC rfl (K.m0) rfl) ?_
   refine qc (K.nA cal_55 (fun F w hF hw => c94r w)) ?_
   refine qa ?_
   refine sn (K.ret (K.iA (et ?_)))
   first
    | (exfalso; omega)
    | exact K.xA rfl (ne_4 (by omega) (by omega)).symm
    | exact K.xA rfl (ne_2 (by omega) (by omega) (by omega)).symm
    | exact gI rfl
  try replace ht56 := Kq.oF ht56
  refine K.skip (K.dA (K.seq (sr (qp (K.aA fo_58_0 rfl) ?_))))
  refine ql (K.fA one_3 rfl (K.m0) rfl) ?_
  refine qp (K.eql rfl rfl) ?_
  refine sn ?_
  refine K.cond rfl (fun ht62 => ?_) (fun ht62 => ?_)
  ·try replace ht62 := Kq.oT ht62
   refine sr (qp (K.aA fo_58_3 rfl) ?_)
   refine ql (K.jA kC rfl (K.m0) rfl) ?_
   refine qc (K.nA cal_55 (fun F w hF hw => c94r w)) ?_
   refine qa ?_
   refine sn (K.ret (K.iA (et ?_)))
   first
    | (exfalso; omega)
    | exact K.xA rfl (ne_4 (by omega) (by omega)).symm
    | exact K.xA rfl (ne_2 (by omega) (by omega) (by omega)).symm
    | exact gI rfl
  try replace ht62 := Kq.oF ht62
  refine K.skip (K.dA (K.seq (sr (qp (K.aA fo_58_0 rfl) ?_))))
  refine ql (K.fA one_3 rfl (K.m0) rfl) ?_
  refine qp (K.eql rfl rfl) ?_
  refine sn ?_
  refine K.cond rfl (fun ht68 => ?_) (fun ht68 => ?_)
  ·try replace ht68 := Kq.oT ht68
   refine sr (qp (K.aA fo_58_3 rfl) ?_)
   refine ql (K.jA kC rfl (K.m0) rfl) ?_
   refine qc (K.nA cal_55 (fun F w hF hw => c94r w)) ?_
   refine qa ?_
   refine sn (K.ret (K.iA (et ?_)))
   first
    | (exfalso; omega)
    | exact K.xA rfl (ne_4 (by omega) (by omega)).symm
    | exact K.xA rfl (ne_2 (by omega) (by omega) (by omega)).symm
    | exact gI rfl
  try replace ht68 := Kq.oF ht68
  refine K.skip (K.dA (K.seq ?_))
  refine K.nB [] uA ?_
  refine dp 0 rfl (K.aA fo_58_3 rfl) ?_
  refine dm 1 rfl (K.jA kC rfl (K.m0) rfl) ?_
  refine dp 2 rfl (K.aA fo_25_0 rfl) ?_
  refine dm 3 rfl (K.fA one_3 rfl (K.m1) rfl) ?_
  refine dp 4 rfl (K.quo_i64 rfl rfl (by omega) (by omega) (by omega)) ?_
  refine K.kB 5 rfl (K.nA cal_55 (fun F w hF hw => c94r w)) (fun _ h => h) (by kernel_rfl) rfl ?_
  refine zN ?_
  refine dp 6 rfl (K.assign) ?_
  refine dd (K.dA (K.seq (sr (qm ?_))))
  refine qp (K.eql rfl rfl) ?_
  refine qm ?_
  refine K.split 80 rfl (fun hg80 => ?_) (fun hg80 => ?_)
  ·try replace hg80 := Kq.oT hg80
   refine qp (K.aA fo_58_3 rfl) ?_
   refine qp (K.aA fo_46_0 rfl) ?_
   refine ql (K.fA one_3 rfl (K.m0) rfl) ?_
   refine qp (K.aA fo_58_3 rfl) ?_
   refine qp (K.aA fo_46_1 rfl) ?_
   refine ql (K.fA one_3 rfl (K.m0) rfl) ?_
   refine qp (K.eql rfl rfl) ?_
   refine qp (K.sA rfl) ?_
   refine sn ?_
   refine K.cond rfl (fun ht88 => ?_) (fun ht88 => ?_)
   ·try replace ht88 := Kq.oT ht88
    refine K.gA (qa ?_)
    refine sn (sr (qm ?_))
    refine qa ?_
    refine sn (K.ret (et ?_))
    first
     | (exfalso; omega)
     | exact K.xA rfl (ne_4 (by omega) (by omega)).symm
     | exact K.xA rfl (ne_2 (by omega) (by omega) (by omega)).symm
     | exact gI rfl
   try replace ht88 := Kq.oF ht88
   refine K.skip (K.dA (sr (qm ?_)))
   refine qa ?_
   refine sn (K.ret (et ?_))
   first
    | (exfalso; omega)
    | exact K.xA rfl (ne_4 (by omega) (by omega)).symm
    | exact K.xA rfl (ne_2 (by omega) (by omega) (by omega)).symm
    | exact gI rfl
  try replace hg80 := Kq.oF hg80
  iterate 7 refine qs ?_
  refine qp (K.dB rfl) ?_
  refine sn (K.oA rfl ?_)
  refine K.skip (K.dA (sr (qm ?_)))
  refine qa ?_
  refine sn (K.ret (et ?_))
  first
   | (exfalso; omega)
   | exact K.xA rfl (ne_4 (by omega) (by omega)).symm
   | exact K.xA rfl (ne_2 (by omega) (by omega) (by omega)).symm
   | exact gI rfl
 try replace hg38 := Kq.oF hg38
 iterate 5 refine qs ?_
 refine qp (K.dB rfl) ?_
 iterate 2 refine qm ?_
 first | refine K.mA (K.fC rfl) rfl ?_ | refine K.mA (K.not_ rfl) rfl ?_
 refine zN ?_
 refine qm ?_
 refine K.split 48 rfl (fun hg48 => ?_) (fun hg48 => ?_)
 ·try replace hg48 := Kq.oT hg48
  refine qp (K.aA fo_58_2 rfl) ?_
  refine ql (K.fA one_3 rfl (K.m0) rfl) ?_
  refine qp (K.neq rfl rfl) ?_
  refine qp (K.sA rfl) ?_
  refine qp (K.dB rfl) ?_
  refine sn ?_
  refine K.cond rfl (fun ht53 => ?_) (fun ht53 => ?_)
  ·try replace ht53 := Kq.oT ht53
   refine sr (qa ?_)
   refine sn (K.ret (K.iA (et ?_)))
   first
    | (exfalso; omega)
    | exact K.xA rfl (ne_4 (by omega) (by omega)).symm
    | exact K.xA rfl (ne_2 (by omega) (by omega) (by omega)).symm
    | exact gI rfl
  try replace ht53 := Kq.oF ht53
  refine K.skip (K.dA (K.seq (sr (qp (K.aA fo_58_0 rfl) ?_))))
  refine ql (K.fA one_3 rfl (K.m0) rfl) ?_
  refine qp (K.eql rfl rfl) ?_
  refine sn ?_
  refine K.cond rfl (fun ht56 => ?_) (fun ht56 => ?_)
  ·try replace ht56 := Kq.oT ht56
   refine sr (qp (K.aA fo_58_3 rfl) ?_)
   refine ql (K.jA kC rfl (K.m0) rfl) ?_
   refine qc (K.nA cal_55 (fun F w hF hw => c94r w)) ?_
   refine qa ?_
   refine sn (K.ret (K.iA (et ?_)))
   first
    | (exfalso; omega)
    | exact K.xA rfl (ne_4 (by omega) (by omega)).symm
    | exact K.xA rfl (ne_2 (by omega) (by omega) (by omega)).symm
    | exact gI rfl
  try replace ht56 := Kq.oF ht56
  refine K.skip (K.dA (K.seq (sr (qp (K.aA fo_58_0 rfl) ?_))))
  refine ql (K.fA one_3 rfl (K.m0) rfl) ?_
  refine qp (K.eql rfl rfl) ?_
  refine sn ?_
  refine K.cond rfl (fun ht62 => ?_) (fun ht62 => ?_)
  ·try replace ht62 := Kq.oT ht62
   refine sr (qp (K.aA fo_58_3 rfl) ?_)
   refine ql (K.jA kC rfl (K.m0) rfl) ?_
   refine qc (K.nA cal_55 (fun F w hF hw => c94r w)) ?_
   refine qa ?_
   refine sn (K.ret (K.iA (et ?_)))
   first
    | (exfalso; omega)
    | exact K.xA rfl (ne_4 (by omega) (by omega)).symm
    | exact K.xA rfl (ne_2 (by omega) (by omega) (by omega)).symm
    | exact gI rfl
  try replace ht62 := Kq.oF ht62
  refine K.skip (K.dA (K.seq (sr (qp (K.aA fo_58_0 rfl) ?_))))
  refine ql (K.fA one_3 rfl (K.m0) rfl) ?_
  refine qp (K.eql rfl rfl) ?_
  refine sn ?_
  refine K.cond rfl (fun ht68 => ?_) (fun ht68 => ?_)
  ·try replace ht68 := Kq.oT ht68
   refine sr (qp (K.aA fo_58_3 rfl) ?_)
   refine ql (K.jA kC rfl (K.m0) rfl) ?_
   refine qc (K.nA cal_55 (fun F w hF hw => c94r w)) ?_
   refine qa ?_
   refine sn (K.ret (K.iA (et ?_)))
   first
    | (exfalso; omega)
    | exact K.xA rfl (ne_4 (by omega) (by omega)).symm
    | exact K.xA rfl (ne_2 (by omega) (by omega) (by omega)).symm
    | exact gI rfl
  try replace ht68 := Kq.oF ht68
  refine K.skip (K.dA (K.seq ?_))
  refine K.nB [] uA ?_
  refine dp 0 rfl (K.aA fo_58_3 rfl) ?_
  refine dm 1 rfl (K.jA kC rfl (K.m0) rfl) ?_
  refine dp 2 rfl (K.aA fo_25_0 rfl) ?_
  refine dm 3 rfl (K.fA one_3 rfl (K.m1) rfl) ?_
  refine dp 4 rfl (K.quo_i64 rfl rfl (by omega) (by omega) (by omega)) ?_
  refine K.kB 5 rfl (K.nA cal_55 (fun F w hF hw => c94r w)) (fun _ h => h) (by kernel_rfl) rfl ?_
  refine zN ?_
  refine dp 6 rfl (K.assign) ?_
  refine dd (K.dA (K.seq (sr (qm ?_))))
  refine qp (K.eql rfl rfl) ?_
  refine qm ?_
  refine K.split 80 rfl (fun hg80 => ?_) (fun hg80 => ?_)
  ·try replace hg80 := Kq.oT hg80
   refine qp (K.aA fo_58_3 rfl) ?_
   refine qp (K.aA fo_46_0 rfl) ?_
   refine ql (K.fA one_3 rfl (K.m0) rfl) ?_
   refine qp (K.aA fo_58_3 rfl) ?_
   refine qp (K.aA fo_46_1 rfl) ?_
   refine ql (K.fA one_3 rfl (K.m0) rfl) ?_
   refine qp (K.eql rfl rfl) ?_
   refine qp (K.sA rfl) ?_
   refine sn ?_
   refine K.cond rfl (fun ht88 => ?_) (fun ht88 => ?_)
   ·try replace ht88 := Kq.oT ht88
    refine K.gA (qa ?_)
    refine sn (sr (qm ?_))
    refine qa ?_
    refine sn (K.ret (et ?_))
    first
     | (exfalso; omega)
     | exact K.xA rfl (ne_4 (by omega) (by omega)).symm
     | exact K.xA rfl (ne_2 (by omega) (by omega) (by omega)).symm
     | exact gI rfl
   try replace ht88 := Kq.oF ht88
   refine K.skip (K.dA (sr (qm ?_)))
   refine qa ?_
   refine sn (K.ret (et ?_))
   first
    | (exfalso; omega)
    | exact K.xA rfl (ne_4 (by omega) (by omega)).symm
    | exact K.xA rfl (ne_2 (by omega) (by omega) (by omega)).symm
    | exact gI rfl
  try replace hg80 := Kq.oF hg80
  iterate 7 refine qs ?_
  refine qp (K.dB rfl) ?_
  refine sn (K.oA rfl ?_)
  refine K.skip (K.dA (sr (qm ?_)))
  refine qa ?_
  refine sn (K.ret (et ?_))
  first
   | (exfalso; omega)
   | exact K.xA rfl (ne_4 (by omega) (by omega)).symm
   | exact K.xA rfl (ne_2 (by omega) (by omega) (by omega)).symm
   | exact gI rfl
 try replace hg48 := Kq.oF hg48
 iterate 3 refine qs ?_
 refine qp (K.dB rfl) ?_
 refine qp (K.dB rfl) ?_
 refine sn (K.oA rfl ?_)
 refine K.skip (K.dA (K.seq (sr (qp (K.aA fo_58_0 rfl) ?_))))
 refine ql (K.fA one_3 rfl (K.m0) rfl) ?_
 refine qp (K.eql rfl rfl) ?_
 refine sn ?_
 refine K.cond rfl (fun ht56 => ?_) (fun ht56 => ?_)
 ·try replace ht56 := Kq.oT ht56
  refine sr (qp (K.aA fo_58_3 rfl) ?_)
  refine ql (K.jA kC rfl (K.m0) rfl) ?_
  refine qc (K.nA cal_55 (fun F w hF hw => c94r w)) ?_
  refine qa ?_
  refine sn (K.ret (K.iA (et ?_)))
  first
   | (exfalso; omega)
   | exact K.xA rfl (ne_4 (by omega) (by omega)).symm
   | exact K.xA rfl (ne_2 (by omega) (by omega) (by omega)).symm
   | exact gI rfl
 try replace ht56 := Kq.oF ht56
 refine K.skip (K.dA (K.seq (sr (qp (K.aA fo_58_0 rfl) ?_))))
 refine ql (K.fA one_3 rfl (K.m0) rfl) ?_
 refine qp (K.eql rfl rfl) ?_
 refine sn ?_
 refine K.cond rfl (fun ht62 => ?_) (fun ht62 => ?_)
 ·try replace ht62 := Kq.oT ht62
  refine sr (qp (K.aA fo_58_3 rfl) ?_)
  refine ql (K.jA kC rfl (K.m0) rfl) ?_
  refine qc (K.nA cal_55 (fun F w hF hw => c94r w)) ?_
  refine qa ?_
  refine sn (K.ret (K.iA (et ?_)))
  first
   | (exfalso; omega)
   | exact K.xA rfl (ne_4 (by omega) (by omega)).symm
   | exact K.xA rfl (ne_2 (by omega) (by omega) (by omega)).symm
   | exact gI rfl
 try replace ht62 := Kq.oF ht62
 refine K.skip (K.dA (K.seq (sr (qp (K.aA fo_58_0 rfl) ?_))))
 refine ql (K.fA one_3 rfl (K.m0) rfl) ?_
 refine qp (K.eql rfl rfl) ?_
 refine sn ?_
 refine K.cond rfl (fun ht68 => ?_) (fun ht68 => ?_)
 ·try replace ht68 := Kq.oT ht68
  refine sr (qp (K.aA fo_58_3 rfl) ?_)
  refine ql (K.jA kC rfl (K.m0) rfl) ?_
  refine qc (K.nA cal_55 (fun F w hF hw => c94r w)) ?_
  refine qa ?_
  refine sn (K.ret (K.iA (et ?_)))
  first
   | (exfalso; omega)
   | exact K.xA rfl (ne_4 (by omega) (by omega)).symm
   | exact K.xA rfl (ne_2 (by omega) (by omega) (by omega)).symm
   | exact gI rfl
 try replace ht68 := Kq.oF ht68
 refine K.skip (K.dA (K.seq ?_))
 refine K.nB [] uA ?_
 refine dp 0 rfl (K.aA fo_58_3 rfl) ?_
 refine dm 1 rfl (K.jA kC rfl (K.m0) rfl) ?_
 refine dp 2 rfl (K.aA fo_25_0 rfl) ?_
 refine dm 3 rfl (K.fA one_3 rfl (K.m1) rfl) ?_
 refine dp 4 rfl (K.quo_i64 rfl rfl (by omega) (by omega) (by omega)) ?_
 refine K.kB 5 rfl (K.nA cal_55 (fun F w hF hw => c94r w)) (fun _ h => h) (by kernel_rfl) rfl ?_
 refine zN ?_
 refine dp 6 rfl (K.assign) ?_
 refine dd (K.dA (K.seq (sr (qm ?_))))
 refine qp (K.eql rfl rfl) ?_
 refine qm ?_
 refine K.split 80 rfl (fun hg80 => ?_) (fun hg80 => ?_)
 ·try replace hg80 := Kq.oT hg80
  refine qp (K.aA fo_58_3 rfl) ?_
  refine qp (K.aA fo_46_0 rfl) ?_
  refine ql (K.fA one_3 rfl (K.m0) rfl) ?_
  refine qp (K.aA fo_58_3 rfl) ?_
  refine qp (K.aA fo_46_1 rfl) ?_
  refine ql (K.fA one_3 rfl (K.m0) rfl) ?_
  refine qp (K.eql rfl rfl) ?_
  refine qp (K.sA rfl) ?_
  refine sn ?_
  refine K.cond rfl (fun ht88 => ?_) (fun ht88 => ?_)
  ·try replace ht88 := Kq.oT ht88
   refine K.gA (qa ?_)
   refine sn (sr (qm ?_))
   refine qa ?_
   refine sn (K.ret (et ?_))
   first
    | (exfalso; omega)
    | exact K.xA rfl (ne_4 (by omega) (by omega)).symm
    | exact K.xA rfl (ne_2 (by omega) (by omega) (by omega)).symm
    | exact gI rfl
  try replace ht88 := Kq.oF ht88
  refine K.skip (K.dA (sr (qm ?_)))
  refine qa ?_
  refine sn (K.ret (et ?_))
  first
   | (exfalso; omega)
   | exact K.xA rfl (ne_4 (by omega) (by omega)).symm
   | exact K.xA rfl (ne_2 (by omega) (by omega) (by omega)).symm
   | exact gI rfl
 try replace hg80 := Kq.oF hg80
 iterate 7 refine qs ?_
 refine qp (K.dB rfl) ?_
 refine sn (K.oA rfl ?_)
 refine K.skip (K.dA (sr (qm ?_)))
 refine qa ?_
 refine sn (K.ret (et ?_))
 first
  | (exfalso; omega)
  | exact K.xA rfl (ne_4 (by omega) (by omega)).symm
  | exact K.xA rfl (ne_2 (by omega) (by omega) (by omega)).symm
  | exact gI rfl

end Go.Proofs.YtnhhfkgldoeifaaGreatDoor.Sh
end
section
namespace Go.Proofs.YtnhhfkgldoeifaaGreatDoor.Sh
open Go Go.ChangeShapes Go.WideShapes Go.Deep Go.RowKit Go.Joins
open Pn (SlD list_of sld_len slice_cap)
section
variable {H : Type} {enc : TypeId × Value → H} {P : Program} {w : World} {base : Nat} {spare : Nat → Bool} {held : Bool}
theorem slice_strs {t e : TypeId} {fuel : Nat} {v : Value} {y : DataW H × List MemPlace} (ht : P.underlying t = some (.slice e)) (he : P.underlying e = some .string) (hC : P.cellsOf e = 1) (h : DataW.trod enc P w base spare held fuel t [v] = some y) :
  ∃ A c xs, SlD w 1 eG v y.1 A c xs := by
 rcases open_slice ht h with ⟨hcs, hx⟩ | ⟨a, len, cap, m, n, D, Pl, hcs, _, hl, hm, hmm, hx, hi⟩
 ·simp at hcs; subst hcs
  exact ⟨none, 0, [], rfl, K.Rd.nil, .inl ⟨by rw [hx], rfl⟩⟩
 ·simp at hcs; subst hcs
  have hlm : len ≤ m := by rw [hmm]; split <;> omega
  obtain ⟨xs, hxl, hq⟩ := list_of (n := len) (Q := fun i (x : ByteArray) => w.cell? (a.add (i * 1)) = some (.string x)) (fun i hil => by
   obtain ⟨cs', hc, ht'⟩ := hi i (by omega)
   rw [hC] at hc
   obtain ⟨_, hcl, hat⟩ := World.cells?_some hc
   match cs', hcl with
   | [x0], _ =>
    obtain ⟨s, e0, _, _⟩ := DataW.trod_string he ht'
    simp at e0; subst e0
    have a0 := hat 0 (by omega)
    simp only [List.getElem?_cons_zero] at a0
    refine ⟨s, ?_⟩
    rw [← a0, K.addr_add0])
  refine ⟨some a, cap, xs, by rw [hxl], fun k x hk => ?_, .inr ⟨_, _, by rw [hx], by simp [hxl]⟩⟩
  have w0 := hq k x hk
  refine ⟨a, rfl, ?_, fun j u hu => ?_⟩
  ·have := World.block_lt_of_cell? w _ w0
   rwa [K.addr_block] at this
  ·match j with
   | 0 => simp [eG] at hu; subst hu; rw [K.addr_add0]; exact w0
   | j + 1 => simp [eG] at hu
theorem slice_notes {t e e2 : TypeId} {f0 f1 f2 f3 g0 g1 : Field} {fuel : Nat} {v : Value} {y : DataW H × List MemPlace} (ht : P.underlying t = some (.slice e)) (he : P.underlying e = some (.struct #[f0, f1, f2, f3])) (he2 : P.underlying e2 = some (.struct #[g0, g1])) (hC : P.cellsOf e = 5) (hC2 : P.cellsOf e2 = 2) (o0 : f0.offset = 0) (o1 : f1.offset = 1) (o2 : f2.offset = 2) (o3 : f3.offset = 3) (t3 : f3.type = e2) (c0 : P.cellsOf f0.type = 1) (c1 : P.cellsOf f1.type = 1) (c2 : P.cellsOf f2.type = 1)
  (q0 : g0.offset = 0) (q1 : g1.offset = 1) (d0 : P.cellsOf g0.type = 1) (d1 : P.cellsOf g1.type = 1) (h0 : P.underlying f0.type = some (.int .i64)) (h1 : P.underlying f1.type = some (.int .i64)) (h2 : P.underlying f2.type = some (.int .i64)) (i0 : P.underlying g0.type = some (.int .i64)) (i1 : P.underlying g1.type = some (.int .i64)) (h : DataW.trod enc P w base spare held fuel t [v] = some y) :
  ∃ A c xs, SlD w 5 eO v y.1 A c xs := by
 rcases open_slice ht h with ⟨hcs, hx⟩ | ⟨a, len, cap, m, n, D, Pl, hcs, _, hl, hm, hmm, hx, hi⟩
 ·simp at hcs; subst hcs
  exact ⟨none, 0, [], rfl, K.Rd.nil, .inl ⟨by rw [hx], rfl⟩⟩
 ·simp at hcs; subst hcs
  have hlm : len ≤ m := by rw [hmm]; split <;> omega
  obtain ⟨xs, hxl, hq⟩ := list_of (n := len) (Q := fun i (x : NtT) => w.cell? (a.add (i * 5)) = some (.int .i64 x.kd) ∧ w.cell? ((a.add (i * 5)).add 1) = some (.int .i64 x.a) ∧ w.cell? ((a.add (i * 5)).add 2) = some (.int .i64 x.b) ∧ w.cell? ((a.add (i * 5)).add 3) = some (.int .i64 x.lo) ∧ w.cell? ((a.add (i * 5)).add 4) = some (.int .i64 x.hi)) (fun i hil => by
   obtain ⟨cs', hc, ht'⟩ := hi i (by omega)
   rw [hC] at hc
   obtain ⟨_, hcl, hat⟩ := World.cells?_some hc
   obtain ⟨ys, n', _, _, _, hyl, hf⟩ := DataW.trod_struct he ht'
   match cs', hcl with
   | [x0, x1, x2, x3, x4], _ =>
    have r0 := hf 0 f0 rfl
    have r1 := hf 1 f1 rfl
    have r2 := hf 2 f2 rfl
    have r3 := hf 3 f3 rfl
    rw [o0, c0] at r0
    rw [o1, c1] at r1
    rw [o2, c2] at r2
    rw [o3, t3, hC2] at r3
    match ys, hyl with
    | [y0, y1, y2, y3], _ =>
     simp at r0 r1 r2 r3
     obtain ⟨ys2, n2, _, _, _, hyl2, hf2⟩ := DataW.trod_struct he2 r3
     have s0 := hf2 0 g0 rfl
     have s1 := hf2 1 g1 rfl
     rw [q0, d0] at s0
     rw [q1, d1] at s1
     match ys2, hyl2 with
     | [z0, z1], _ =>
      simp at s0 s1
      obtain ⟨k0, e0, _, _⟩ := DataW.trod_int h0 r0
      obtain ⟨k1, e1, _, _⟩ := DataW.trod_int h1 r1
      obtain ⟨k2, e2, _, _⟩ := DataW.trod_int h2 r2
      obtain ⟨k3, e3, _, _⟩ := DataW.trod_int i0 s0
      obtain ⟨k4, e4, _, _⟩ := DataW.trod_int i1 s1
      simp at e0 e1 e2 e3 e4; subst e0 e1 e2 e3 e4
      have a0 := hat 0 (by omega)
      have a1 := hat 1 (by omega)
      have a2 := hat 2 (by omega)
      have a3 := hat 3 (by omega)
      have a4 := hat 4 (by omega)
      simp only [List.getElem?_cons_zero, List.getElem?_cons_succ] at a0 a1 a2 a3 a4
      refine ⟨⟨k0, k1, k2, k3, k4⟩, ?_, a1, a2, a3, a4⟩
      rw [← a0, K.addr_add0])
  refine ⟨some a, cap, xs, by rw [hxl], fun k x hk => ?_, .inr ⟨_, _, by rw [hx], by simp [hxl]⟩⟩
  obtain ⟨w0, w1, w2, w3, w4⟩ := hq k x hk
  refine ⟨a, rfl, ?_, fun j u hu => ?_⟩
  ·have := World.block_lt_of_cell? w _ w0
   rwa [K.addr_block] at this
  ·match j with
   | 0 => simp [eO] at hu; subst hu; rw [K.addr_add0]; exact w0
   | 1 => simp [eO] at hu; subst hu; exact w1
   | 2 => simp [eO] at hu; subst hu; exact w2
   | 3 => simp [eO] at hu; subst hu; exact w3
   | 4 => simp [eO] at hu; subst hu; exact w4
   | j + 5 => simp [eO] at hu
theorem slice_u16s {t e : TypeId} {fuel : Nat} {v : Value} {y : DataW H × List MemPlace} (ht : P.underlying t = some (.slice e)) (he : P.underlying e = some (.int .u16)) (hC : P.cellsOf e = 1) (hb : P.bytesOf e = 2) (h : DataW.trod enc P w base spare held fuel t [v] = some y) (hs : ∀ n ∈ y.1.weights P t, n ≤ reachBytes) :
  ∃ (Y : Option Addr) (cy : Nat) (ys : List Int), v = .slice Y ys.length cy ∧ K.Rd w Y 1 eH ys ∧ (∀ x ∈ ys, 0 ≤ x ∧ x ≤ 65535) ∧ ys.length ≤ 70368744175616 := by
 rcases open_ints ht he hC h with ⟨hcs, hx⟩ | ⟨a, len, cap, zs, hcs, _, hl, hm, hz, hx, hcell, hwf⟩
 ·simp at hcs; subst hcs
  exact ⟨none, 0, [], rfl, K.Rd.nil, by simp, by simp⟩
 ·simp at hcs; subst hcs
  have hlz : len ≤ zs.length := by rw [hz]; split <;> omega
  have hlen : (zs.take len).length = len := by rw [List.length_take]; omega
  refine ⟨some a, cap, zs.take len, by rw [hlen], fun k x hk => ?_, fun x hx => bounds_u16 (hwf x (List.mem_of_mem_take hx)), ?_⟩
  ·have hk1 : k < len := by have := (List.getElem?_eq_some_iff.1 hk).1; omega
   have hc1 := hcell k (by omega)
   have hzk : zs.getD k 0 = x := by
    rw [List.getElem?_take, if_pos hk1] at hk
    rw [List.getD_eq_getElem?_getD, hk]; rfl
   rw [hzk] at hc1
   refine ⟨a, rfl, ?_, fun j u hu => ?_⟩
   ·have := World.block_lt_of_cell? w _ hc1
    rwa [K.addr_block] at this
   ·cases j with
    | zero => simp [eH] at hu; subst hu; rw [Nat.mul_one, K.addr_add0]; exact hc1
    | succ j => simp [eH] at hu
  ·rw [hx] at hs
   have h1 := hs (zs.length * 2) (by simp [DataW.weights, ht, hb]; left; simp [lits]; omega)
   have h3 : reachBytes ≤ 140737488351232 := by decide
   omega
theorem open_agg3 {t : TypeId} {f0 f1 f2 : Field} {b0 : Nat} {v : Value} {d : DataW H} {p : List MemPlace} (hs : P.underlying t = some (.struct #[f0, f1, f2])) (k0 : P.cellsOf f0.type = 1) (k1 : P.cellsOf f1.type = 1) (o0 : f0.offset = 0) (o1 : f1.offset = 1) (o2 : f2.offset = 2) (hv : Value.okWide P w .any b0 t v) (h : DataW.Trod enc P w base spare held t v d p) :
  ∃ (l : List Value) (y0 y1 y2 : DataW H × List MemPlace) (n : Nat), v = .agg l.toArray ∧ l.length = P.cellsOf t ∧ d = .agg [y0.1, y1.1, y2.1] ∧
   DataW.trod enc P w base spare held n f0.type (l.take 1) = some y0 ∧ DataW.trod enc P w base spare held n f1.type ((l.drop 1).take 1) = some y1 ∧ DataW.trod enc P w base spare held n f2.type ((l.drop 2).take (P.cellsOf f2.type)) = some y2 := by
 obtain ⟨cs, rfl, hsz⟩ := okWide_struct hs hv
 obtain ⟨l⟩ := cs
 obtain ⟨fuel, hf⟩ := h
 obtain ⟨xs, n, _, hx, _, hlen, hg⟩ := DataW.trod_struct hs hf
 match xs, hlen with
 | [y0, y1, y2], _ =>
  simp only [Prod.mk.injEq] at hx
  exact ⟨l, y0, y1, y2, n, rfl, by simpa using hsz, by simpa using hx.1, by simpa [Value.cells, o0, k0] using hg 0 f0 rfl, by simpa [Value.cells, o1, k1] using hg 1 f1 rfl, by simpa [Value.cells, o2] using hg 2 f2 rfl⟩
end
section
variable {H : Type} {enc : TypeId × Value → H} {w : World} {base : Nat} {spare : Nat → Bool} {held : Bool}
set_option maxRecDepth 100000 in
theorem open_sheet {b0 : Nat} {v : Value} {d : DataW H} {p : List MemPlace} (hv : Value.okWide Tryz.prog w .any b0 25 v) (h : DataW.Trod enc Tryz.prog w base spare held 25 v d p) (hs : ∀ n ∈ d.weights Tryz.prog 25, n ≤ reachBytes) :
  ∃ (iv : Int) (pts : List ByteArray) (nts : List NtT) (A B : Option Addr) (c e : Nat), v = .agg #[.int .i64 iv, .slice A pts.length c, .slice B nts.length e] ∧ K.Rd w A 1 eG pts ∧ K.Rd w B 5 eO nts ∧ pts.length ≤ 17592186043904 ∧ nts.length ≤ 17592186043904 ∧ pts.length ≤ c := by
 obtain ⟨l, y0, y1, y2, n, rfl, hl, rfl, r0, r1, r2⟩ := open_agg3 Tryz.underlying25 (by kernel_rfl) (by kernel_rfl) rfl rfl rfl hv h
 have hC : Tryz.prog.cellsOf 25 = 3 := by kernel_rfl
 have k2 : Tryz.prog.cellsOf 23 = 1 := by kernel_rfl
 match l, hl.trans hC with
 | [c0, c1, c2], _ =>
  replace r2 : DataW.trod enc Tryz.prog w base spare held n 23 ([c2].take (Tryz.prog.cellsOf 23)) = some y2 := r2
  rw [k2] at r2
  replace r0 : DataW.trod enc Tryz.prog w base spare held n 3 [c0] = some y0 := r0
  replace r1 : DataW.trod enc Tryz.prog w base spare held n 22 [c1] = some y1 := r1
  replace r2 : DataW.trod enc Tryz.prog w base spare held n 23 [c2] = some y2 := r2
  obtain ⟨iv, e0, _, w0⟩ := DataW.trod_int Tryz.underlying3 r0
  simp at e0; subst e0
  obtain ⟨A, c, pts, s1⟩ := slice_strs Tryz.underlying22 Tryz.underlying9 (by kernel_rfl) r1
  obtain ⟨B, e, nts, s2⟩ := slice_notes Tryz.underlying23 Tryz.underlying58 Tryz.underlying46 (by kernel_rfl) (by kernel_rfl) rfl rfl rfl rfl rfl (by kernel_rfl) (by kernel_rfl) (by kernel_rfl) rfl rfl (by kernel_rfl) (by kernel_rfl) Tryz.underlying3 Tryz.underlying3 Tryz.underlying3 Tryz.underlying3 Tryz.underlying3 r2
  have l1 := sld_len s1 Tryz.underlying22 (b := 16) (by kernel_rfl) (by omega) (fun n hn => hs n (by simp [DataW.weights, Tryz.underlying25, DataW.weightsEach, hn]))
  have l2 := sld_len s2 Tryz.underlying23 (b := 40) (by kernel_rfl) (by omega) (fun n hn => hs n (by simp [DataW.weights, Tryz.underlying25, DataW.weightsEach, hn]))
  obtain ⟨rfl, q1, _⟩ := s1
  obtain ⟨rfl, q2, _⟩ := s2
  exact ⟨iv, pts, nts, A, B, c, e, rfl, q1, q2, l1, l2, slice_cap Tryz.underlying22 r1⟩
set_option maxRecDepth 100000 in
theorem open_headed {b0 : Nat} {v : Value} {d : DataW H} {p : List MemPlace} (hv : Value.okWide Tryz.prog w .any b0 34 v) (h : DataW.Trod enc Tryz.prog w base spare held 34 v d p) (hs : ∀ n ∈ d.weights Tryz.prog 34, n ≤ reachBytes) :
  ∃ (X Y : Option Addr) (cx cy : Nat) (xs ys : List Int) (z0 z1 : Int), v = .agg #[.slice X xs.length cx, .slice Y ys.length cy, .int .u8 z0, .int .u8 z1] ∧ (K.Rd w X 1 eH xs ∧ (∀ x ∈ xs, 0 ≤ x ∧ x ≤ 65535) ∧ xs.length ≤ 70368744175616) ∧ (K.Rd w Y 1 eH ys ∧ (∀ x ∈ ys, 0 ≤ x ∧ x ≤ 65535) ∧ ys.length ≤ 70368744175616) ∧ (0 ≤ z0 ∧ z0 ≤ 255) ∧ (0 ≤ z1 ∧ z1 ≤ 255) := by
 obtain ⟨l, y0, y1, y2, n, rfl, hl, rfl, r0, r1, r2⟩ := open_agg3 Tryz.underlying34 (by kernel_rfl) (by kernel_rfl) rfl rfl rfl hv h
 have hC : Tryz.prog.cellsOf 34 = 4 := by kernel_rfl
 have k2 : Tryz.prog.cellsOf 32 = 2 := by kernel_rfl
 have k5 : Tryz.prog.cellsOf 5 = 1 := by kernel_rfl
 match l, hl.trans hC with
 | [c0, c1, c2, c3], _ =>
  replace r2 : DataW.trod enc Tryz.prog w base spare held n 32 ([c2, c3].take (Tryz.prog.cellsOf 32)) = some y2 := r2
  rw [k2] at r2
  replace r0 : DataW.trod enc Tryz.prog w base spare held n 31 [c0] = some y0 := r0
  replace r1 : DataW.trod enc Tryz.prog w base spare held n 31 [c1] = some y1 := r1
  replace r2 : DataW.trod enc Tryz.prog w base spare held n 32 [c2, c3] = some y2 := r2
  obtain ⟨X, cx, xs, rfl, s0⟩ := slice_u16s Tryz.underlying31 Tryz.underlying152 (by kernel_rfl) (by kernel_rfl) r0 (fun n hn => hs n (by simp [DataW.weights, Tryz.underlying34, DataW.weightsEach, hn]))
  obtain ⟨Y, cy, ys, rfl, s1⟩ := slice_u16s Tryz.underlying31 Tryz.underlying152 (by kernel_rfl) (by kernel_rfl) r1 (fun n hn => hs n (by simp [DataW.weights, Tryz.underlying34, DataW.weightsEach, hn]))
  obtain ⟨zs, m, _, _, _, hzl, hi⟩ := DataW.trod_array Tryz.underlying32 r2
  have i0 := hi 0 (by decide)
  have i1 := hi 1 (by decide)
  rw [k5] at i0 i1
  match zs, hzl with
  | [u0, u1], _ =>
   simp at i0 i1
   obtain ⟨z0, e0, _, w0⟩ := DataW.trod_int Tryz.underlying5 i0
   obtain ⟨z1, e1, _, w1⟩ := DataW.trod_int Tryz.underlying5 i1
   simp at e0 e1; subst e0 e1
   exact ⟨X, Y, cx, cy, xs, ys, z0, z1, rfl, s0, s1, bounds_u8 w0, bounds_u8 w1⟩
end
end Go.Proofs.YtnhhfkgldoeifaaGreatDoor.Sh
end
section
namespace Go.K
open Go.RowKit
def boT (P : Program) (t : TypeId) : Bool := match P.underlying t with | some .bool => true | _ => false
theorem boT_spec {P : Program} {t : TypeId} (h : boT P t = true) : P.underlying t = some .bool := by
 unfold boT at h
 split at h
 ·assumption
 ·cases h
section
variable {P : Program} {w0 : World} {L : List Chunk} {l : List Value} {d : Option Tmp} {ty : TypeId} {ps : String} {af : Array Edge} {g : Option (Nat × Bool)} {xt yt : TypeId} {x y : Operand} {a b : Bool}
theorem run_equalIn_b (h : boT P xt = true) (w : World) (k : Nat) : (Op.equalIn (k + 1) xt (.bool a) (.bool b)).run P w = .ok (a == b) w := by
 simp [Op.equalIn, run_underlying (boT_spec h)]
theorem run_equal_b (h : boT P xt = true) (w : World) : (Op.equal xt (.bool a) (.bool b)).run P w = .ok (a == b) w := by
 simp only [Op.equal, Op.maxDepth, run_equalIn_b h w 9999]
theorem eql_bb (h : boT P xt = true) (hx : ev l x = .bool a) (hy : ev l y = .bool b) : Pure P ⟨d, .binOp .eql xt x y yt, ty, ps, af, g⟩ l (.bool (a == b)) := fun w => by
 simp [execOp, hx, hy, binOp, eqGuard, run_equal_b h]
end
end Go.K

namespace Go.K
open Go.RowKit
section
variable {P : Program} {w0 : World} {L L' : List Chunk} {l : List Value} {d : Option Tmp} {ty : TypeId} {ps : String} {af : Array Edge} {g : Option (Nat × Bool)}
end
theorem rpe {c c' c'' : Chunk} {L L' : List Chunk} (hr : Rep c c' L L') (h : c' = c'') : Rep c c'' L L' := h ▸ hr
section
variable {P : Program} {l : List Value} {d : Option Tmp} {ty : TypeId} {ps : String} {af : Array Edge} {g : Option (Nat × Bool)} {xt yt : TypeId} {x y : Operand}
end
end Go.K

namespace Go.K
open Go.RowKit
section
variable {w0 : World} {L : List Chunk} {G : World → Prop}
end
end Go.K
end
section
namespace Go.K
open Go.RowKit
def con (P : Program) (t : TypeId) : Bool :=
 match P.underlying t with
 | some (.interface _) => false
 | some _ => true
 | none => false
def meth (P : Program) (t : TypeId) (name : String) : Option FuncId :=
 match P.info? t with
 | some i => match i.methods.find? (·.name == name) with
  | some m => match m.path.toList, m.func, P.underlying t with
   | [], some (f, false), some (.pointer _) => none
   | [], some (f, false), some _ => some f
   | _, _, _ => none
  | none => none
 | none => none
section
variable {P : Program} {w0 : World} {L : List Chunk} {l : List Value} {d : Option Tmp} {ty : TypeId} {ps : String} {af : Array Edge} {g : Option (Nat × Bool)}
theorem con_spec {t : TypeId} (h : con P t = true) : ∃ u, P.underlying t = some u ∧ ∀ ms, u ≠ .interface ms := by
 unfold con at h
 cases hu : P.underlying t with
 | none => rw [hu] at h; cases h
 | some u => exact ⟨u, rfl, fun ms e => by subst e; rw [hu] at h; cases h⟩
theorem mkIface {t : TypeId} {x : Operand} {v : Value} (h : con P t = true) (hx : ev l x = v) : Pure P ⟨d, .makeInterface t x, ty, ps, af, g⟩ l (.iface t v) := fun w => by
 obtain ⟨u, hu, hn⟩ := con_spec h
 subst hx
 simp only [execOp, Instr.makeInterface, Sem.run_bind, run_underlying hu w, Result.andThen_ok]
 cases u <;> first | rfl | exact absurd rfl (hn _)
theorem assertY {t xt : TypeId} {x : Operand} {v : Value} (h : con P t = true) (hx : ev l x = .iface t v) : Pure P ⟨d, .typeAssert x xt t true, ty, ps, af, g⟩ l (.tuple [v, .bool true].toArray) := fun w => by
 obtain ⟨u, hu, hn⟩ := con_spec h
 simp only [execOp, Instr.typeAssert, Sem.run_bind, run_underlying hu w, Result.andThen_ok, hx]
 cases u <;> first | (simp; done) | exact absurd rfl (hn _)
theorem assertN {t u xt : TypeId} {x : Operand} {v z : Value} (h : con P t = true) (hx : ev l x = .iface u v) (hne : (u == t) = false) (hz : zr P t = some z) : Pure P ⟨d, .typeAssert x xt t true, ty, ps, af, g⟩ l (.tuple [z, .bool false].toArray) := fun w => by
 obtain ⟨un, hu, hn⟩ := con_spec h
 have hne : u ≠ t := by simpa using hne
 simp only [execOp, Instr.typeAssert, Sem.run_bind, run_underlying hu w, Result.andThen_ok, hx]
 cases un <;> first | (simp [hne, Sem.run_bind, zr_spec hz w]; done) | exact absurd rfl (hn _)
theorem eql_ifn {t yt : TypeId} {x : Operand} {u : TypeId} {v : Value} (h : P.underlying t = some (.interface (P.methodsAt t))) (hx : ev l x = .iface u v) : Pure P ⟨d, .binOp .eql t x (.const .nilIface) yt, ty, ps, af, g⟩ l (.bool false) := fun w => by
 have hc : ev l (.const .nilIface) = .nilIface := rfl
 simp only [execOp, hx, hc, eqGuard_at_iface, run_eql_held_nil w t u v h, Sem.run_bind, Sem.run_pure, Result.andThen_ok]
theorem run_meth {t : TypeId} {name : String} {f : FuncId} (h : meth P t name = some f) (n : Nat) (v : Value) (w : World) : (method (n + 1) t v name).run P w = .ok (f, v) w := by
 unfold meth at h
 split at h
 ·rename_i i hi
  split at h
  ·rename_i m hm
   split at h
   ·cases h
   ·rename_i f' u hp hf hu hn
    obtain rfl := Option.some.inj h
    have ht : (typeInfo t).run P w = .ok i w := by simp [typeInfo, hi]
    have hu2 := run_underlying hn w
    cases u <;> first
     | exact absurd rfl (hp _)
     | (simp [method, Sem.run_bind, ht, hm, hu, follow, hf, receiverAt, hu2, Place.get]; done)
   ·cases h
  ·cases h
 ·cases h
theorem calli {ρ : Type} {ok : ρ → Prop} {val : ρ → Value} {D : ρ → List Chunk} {x : Operand} {args : List Operand} {f : FuncId} {t : TypeId} {v : Value} {name : String} {ts : Array TypeId} (hx : ev l x = .iface t v) (hm : meth P t name = some f) (hf : callable P f = true)
  (hc : ∀ F w, (∀ c ∈ L, c ∈ F) → St w0 F w → Calls P f (v :: args.map (ev l)).toArray w (Ret ok val D w)) :
  Loud P w0 L ⟨d, .call { callee := .invoke x name, args := args.toArray, argTypes := ts }, ty, ps, af, g⟩ l ok val D := fun F w hF hw => by
 refine OpT.of_enter (w' := w) (f := f) (args := (v :: args.map (ev l)).toArray) ?_ ((hc F w hF hw).mono ?_)
 ·have hs : ∀ k : Nat, 0 < k → (method k t v name).run P w = .ok (f, v) w := fun k hk => by
   obtain ⟨j, rfl⟩ := Nat.exists_eq_succ_of_ne_zero (by omega : k ≠ 0)
   exact run_meth hm j v w
  have e : (#[v] : Array Value) ++ ((#[Value.iface t v] ++ args.toArray.map (ev l)).extract 1 (#[Value.iface t v] ++ args.toArray.map (ev l)).size) = (v :: args.map (ev l)).toArray := by
   apply Array.toList_inj.1; simp
   exact List.take_of_length_le (by simp)
  have e2 : (#[Value.iface t v] ++ args.toArray.map (ev l))[0]? = some (Value.iface t v) := by simp
  simp only [execOp, resolve, hx, Sem.run_bind, Sem.run_pure, Result.andThen_ok, invoke, e2, callMethod, run_program, hs _ (Nat.lt_of_lt_of_le (show 0 < Made.depth by decide) (Nat.le_add_left _ _)), e, run_call hf]
 ·rintro e w' ⟨r, hr, rfl, hb, hD⟩
  exact ⟨_, rfl, r, hr, rfl, hw.add hb hD⟩
theorem calli_g {x : Operand} {args : List Operand} {f : FuncId} {t : TypeId} {v r : Value} {name : String} {ts : Array TypeId} (hx : ev l x = .iface t v) (hm : meth P t name = some f) (hf : callable P f = true)
  (hc : ∀ F w, (∀ c ∈ L, c ∈ F) → St w0 F w → Calls P f (v :: args.map (ev l)).toArray w (Gives r w)) :
  Loud P w0 L ⟨d, .call { callee := .invoke x name, args := args.toArray, argTypes := ts }, ty, ps, af, g⟩ l (fun _ : Unit => True) (fun _ => r) (fun _ => []) :=
 calli hx hm hf (fun F w hF hw => (hc F w hF hw).mono fun _ _ h => h.ret)
end
end Go.K
end
section
namespace Go.K
open Go.RowKit
def mI (B : List Int) : List Value := B.map fun n => Value.int .i64 n
theorem mI_len {B : List Int} : (mI B).length = B.length := by unfold mI; simp
theorem mI_at {B : List Int} {i : Nat} (h : i < B.length) : (List.drop 0 (mI B))[i]? = some (.int .i64 (B.getD i default)) := by
 rw [List.drop_zero]; unfold mI
 rw [List.getElem?_map, List.getD_eq_getElem?_getD, List.getElem?_eq_getElem h]; rfl
theorem mI_one {B : List Int} : (mI B).all Value.oneCell' = true := by
 unfold mI
 rw [List.all_eq_true]
 intro v hv
 obtain ⟨n, _, rfl⟩ := List.mem_map.1 hv
 rfl
theorem mI_set {B : List Int} {i : Nat} {v : Int} (h : i < B.length) : over (mI B) i (cl (.int .i64 v)) = mI (B.set i v) := by
 have h1 := over_eq (cl (.int .i64 v)) (mI B) i (by rw [mI_len]; show i + 1 ≤ _; omega)
 have h2 := List.toArray_inj h1
 rw [h2]
 show (mI B).take i ++ [Value.int .i64 v] ++ (mI B).drop (i + 1) = _
 unfold mI
 rw [List.map_set, List.set_eq_take_append_cons_drop, if_pos (by simpa using h), List.append_assoc]; rfl
section
variable {P : Program} {w0 : World} {L L' : List Chunk} {l : List Value} {d : Option Tmp} {ty : TypeId} {ps : String} {af : Array Edge} {g : Option (Nat × Bool)}
theorem load_mx {t b n : Nat} {e : TypeId} {x : Operand} {cs : List Value} (ha : ag P t = some n) (hx : ev l x = .pointer (some ⟨b, 0, none⟩)) (hm : blk b e cs ∈ L) (hn : cs.length = n) : Sil P w0 L ⟨d, .load t x, ty, ps, af, g⟩ l (.agg cs.toArray) := by
 have h := loadA_ix (P := P) (w0 := w0) (d := d) (ty := ty) (ps := ps) (af := af) (g := g) ha hx hm (by omega)
 have e1 : (cs.drop 0).take n = cs := by rw [List.drop_zero, ← hn, List.take_length]
 rw [e1] at h
 exact h
theorem store_mx {t n b : Nat} {e : TypeId} {x y : Operand} {cs us : List Value} (hn : sz P t = some n) (hx : ev l x = .pointer (some ⟨b, 0, none⟩)) (hy : ev l y = .agg us.toArray) (hu : us.length = n) (hc : cs.length = n)
  (h1 : us.all Value.oneCell' = true) (hr : Rep (blk b e cs) (blk b e us) L L') :
  Upd P w0 L ⟨d, .store t x y, ty, ps, af, g⟩ l (fun _ : Unit => True) (fun _ => undef) (fun _ => L') := by
 have e0 : cl (ev l y) = us := by rw [hy]; rfl
 exact vA hn hx (by rw [e0]; simpa using hu) (by simpa using hc) (by rw [e0]; exact h1) (by rw [e0]; exact hr)
theorem box_mx {t : TypeId} {x : Operand} {us : List Value} (hx : ev l x = .agg us.toArray) : Loud P w0 L ⟨d, .box t x, ty, ps, af, g⟩ l (fun _ : Nat => True) (fun b => .pointer (some ⟨b, 0, none⟩)) (fun b => [blk b t us]) := by
 have h := box (P := P) (w0 := w0) (L := L) (l := l) (d := d) (ty := ty) (ps := ps) (af := af) (g := g) (t := t) (x := x)
 have e0 : cl (ev l x) = us := by rw [hx]; rfl
 rw [e0] at h
 exact h
theorem run_cellM {p : Addr} {ty n b : Nat} {e : TypeId} {cs : List Value} (ha : ag P ty = some n) (hp : p = ⟨b, 0, none⟩) (hm : blk b e cs ∈ L) (hn : cs.length = n) (w : World) (hw : St w0 L w) : (loadVar ty p).run P w = .ok (.agg cs.toArray) w :=
 run_cellA ha hp hm (by simpa using hn) w hw
end
end Go.K
end
section
namespace Go.Proofs.YtnhhfkgldoeifaaGreatDoor.Sh
open Go
theorem ag_25 : K.ag Tryz.prog 25 = some 3 := by kernel_rfl
theorem ag_58 : K.ag Tryz.prog 58 = some 5 := by kernel_rfl
theorem cal_100 : K.callable Tryz.prog 100 = true := by kernel_rfl
theorem cal_101 : K.callable Tryz.prog 101 = true := by kernel_rfl
theorem cal_102 : K.callable Tryz.prog 102 = true := by kernel_rfl
theorem cal_103 : K.callable Tryz.prog 103 = true := by kernel_rfl
theorem cal_104 : K.callable Tryz.prog 104 = true := by kernel_rfl
theorem cal_105 : K.callable Tryz.prog 105 = true := by kernel_rfl
theorem cal_106 : K.callable Tryz.prog 106 = true := by kernel_rfl
theorem cal_107 : K.callable Tryz.prog 107 = true := by kernel_rfl
theorem cal_108 : K.callable Tryz.prog 108 = true := by kernel_rfl
theorem cal_109 : K.callable Tryz.prog 109 = true := by kernel_rfl
theorem cal_110 : K.callable Tryz.prog 110 = true := by kernel_rfl
theorem cal_131 : K.callable Tryz.prog 131 = true := by kernel_rfl
theorem cal_189 : K.callable Tryz.prog 189 = true := by kernel_rfl
theorem cal_190 : K.callable Tryz.prog 190 = true := by kernel_rfl
theorem cal_191 : K.callable Tryz.prog 191 = true := by kernel_rfl
theorem cal_192 : K.callable Tryz.prog 192 = true := by kernel_rfl
theorem cal_30 : K.callable Tryz.prog 30 = true := by kernel_rfl
theorem cal_58 : K.callable Tryz.prog 58 = true := by kernel_rfl
theorem cal_59 : K.callable Tryz.prog 59 = true := by kernel_rfl
theorem cal_64 : K.callable Tryz.prog 64 = true := by kernel_rfl
theorem cal_66 : K.callable Tryz.prog 66 = true := by kernel_rfl
theorem cal_67 : K.callable Tryz.prog 67 = true := by kernel_rfl
theorem cal_68 : K.callable Tryz.prog 68 = true := by kernel_rfl
theorem cal_69 : K.callable Tryz.prog 69 = true := by kernel_rfl
theorem cal_70 : K.callable Tryz.prog 70 = true := by kernel_rfl
theorem cal_95 : K.callable Tryz.prog 95 = true := by kernel_rfl
theorem cal_99 : K.callable Tryz.prog 99 = true := by kernel_rfl
theorem con_183 : K.con Tryz.prog 183 = true := by kernel_rfl
theorem con_184 : K.con Tryz.prog 184 = true := by kernel_rfl
theorem con_185 : K.con Tryz.prog 185 = true := by kernel_rfl
theorem con_186 : K.con Tryz.prog 186 = true := by kernel_rfl
theorem el_22 : K.el Tryz.prog 22 = some (9, 1, 16) := by kernel_rfl
theorem el_23 : K.el Tryz.prog 23 = some (58, 5, 40) := by kernel_rfl
theorem fo_25_0 : K.fo Tryz.prog 25 0 = some 0 := by kernel_rfl
theorem fo_25_1 : K.fo Tryz.prog 25 1 = some 1 := by kernel_rfl
theorem fo_25_2 : K.fo Tryz.prog 25 2 = some 2 := by kernel_rfl
theorem fo_46_0 : K.fo Tryz.prog 46 0 = some 0 := by kernel_rfl
theorem fo_46_1 : K.fo Tryz.prog 46 1 = some 1 := by kernel_rfl
theorem fo_58_0 : K.fo Tryz.prog 58 0 = some 0 := by kernel_rfl
theorem fo_58_1 : K.fo Tryz.prog 58 1 = some 1 := by kernel_rfl
theorem fo_58_2 : K.fo Tryz.prog 58 2 = some 2 := by kernel_rfl
theorem fo_58_3 : K.fo Tryz.prog 58 3 = some 3 := by kernel_rfl
theorem ift_173 : Tryz.prog.underlying 173 = some (.interface (Tryz.prog.methodsAt 173)) := by kernel_rfl
theorem ift_180 : Tryz.prog.underlying 180 = some (.interface (Tryz.prog.methodsAt 180)) := by kernel_rfl
theorem mm_183 : K.meth Tryz.prog 183 "hachure/sheet.about" = some 189 := by kernel_rfl
theorem mm_184 : K.meth Tryz.prog 184 "hachure/sheet.about" = some 190 := by kernel_rfl
theorem mm_185 : K.meth Tryz.prog 185 "hachure/sheet.about" = some 191 := by kernel_rfl
theorem mm_186 : K.meth Tryz.prog 186 "hachure/sheet.about" = some 192 := by kernel_rfl
theorem one_127 : K.one Tryz.prog 127 = true := by kernel_rfl
theorem one_22 : K.one Tryz.prog 22 = true := by kernel_rfl
theorem one_23 : K.one Tryz.prog 23 = true := by kernel_rfl
theorem one_3 : K.one Tryz.prog 3 = true := by kernel_rfl
theorem one_35 : K.one Tryz.prog 35 = true := by kernel_rfl
theorem one_9 : K.one Tryz.prog 9 = true := by kernel_rfl
theorem sT_9 : K.sT Tryz.prog 9 = true := by kernel_rfl
theorem sl_22 : K.sl Tryz.prog 22 = some (9, 1) := by kernel_rfl
theorem sl_23 : K.sl Tryz.prog 23 = some (58, 5) := by kernel_rfl
theorem sz_22 : K.sz Tryz.prog 22 = some 1 := by kernel_rfl
theorem sz_23 : K.sz Tryz.prog 23 = some 1 := by kernel_rfl
theorem sz_25 : K.sz Tryz.prog 25 = some 3 := by kernel_rfl
theorem sz_3 : K.sz Tryz.prog 3 = some 1 := by kernel_rfl
theorem sz_35 : K.sz Tryz.prog 35 = some 1 := by kernel_rfl
theorem sz_58 : K.sz Tryz.prog 58 = some 5 := by kernel_rfl
theorem sz_9 : K.sz Tryz.prog 9 = some 1 := by kernel_rfl
theorem zr_171 : K.zr Tryz.prog 171 = some (.agg #[.pointer none, .slice none 0 0]) := by kernel_rfl
theorem zr_183 : K.zr Tryz.prog 183 = some (.agg #[.int .i64 0, .int .i64 0, .int .i64 0, .int .i64 0, .int .i64 0]) := by kernel_rfl
theorem zr_184 : K.zr Tryz.prog 184 = some (.agg #[.int .i64 0, .int .i64 0, .int .i64 0, .int .i64 0, .int .i64 0]) := by kernel_rfl
theorem zr_185 : K.zr Tryz.prog 185 = some (.agg #[.int .i64 0, .int .i64 0, .int .i64 0, .int .i64 0, .int .i64 0]) := by kernel_rfl
theorem zr_186 : K.zr Tryz.prog 186 = some (.agg #[.int .i64 0, .int .i64 0, .int .i64 0, .int .i64 0, .int .i64 0]) := by kernel_rfl
theorem zr_25 : K.zr Tryz.prog 25 = some (.agg #[.int .i64 0, .slice none 0 0, .slice none 0 0]) := by kernel_rfl
theorem zr_35 : K.zr Tryz.prog 35 = some (.int .i64 0) := by kernel_rfl
theorem zr_58 : K.zr Tryz.prog 58 = some (.agg #[.int .i64 0, .int .i64 0, .int .i64 0, .int .i64 0, .int .i64 0]) := by kernel_rfl
end Go.Proofs.YtnhhfkgldoeifaaGreatDoor.Sh
end
section
namespace Go.Proofs
open Go.Shelf Go.RowKit Go.Lib Go.Sort
def Tryz.lays169_ren : Go.Shelf.Ren := ⟨fun | 169 => 104 | n => n, fun | 70 => 168 | 9 => 9 | 0 => 0 | 72 => 171 | 37 => 169 | 127 => 206 | 3 => 3 | 5 => 5 | n => n, fun | n => n⟩
theorem Tryz.lays169 : Go.Proofs.Lays.n169 Tryz.prog Tryz.lays169_ren := {
 mixed := by kernel_rfl
 f169 := Tryz.func104.trans (congrArg some (by kernel_rfl))
 t0 := Tryz.underlying0
 a0 := Tryz.isAgg0
 z0 := Tryz.sizeOf0
 v0 := Tryz.zeroValue0
 t3 := Tryz.underlying3
 a3 := Tryz.isAgg3
 z3 := Tryz.sizeOf3
 v3 := Tryz.zeroValue3
 t9 := Tryz.underlying9
 a9 := Tryz.isAgg9
 z9 := Tryz.sizeOf9
 v9 := Tryz.zeroValue9
 t37 := Tryz.underlying169
 a37 := Tryz.isAgg169
 z37 := Tryz.sizeOf169
 v37 := Tryz.zeroValue169
 t70 := Tryz.underlying168
 a70 := Tryz.isAgg168
 z70 := Tryz.sizeOf168
 v70 := Tryz.zeroValue168
 t72 := Tryz.underlying171
 a72 := Tryz.isAgg171
 z72 := Tryz.sizeOf171
 v72 := Tryz.zeroValue171
 t127 := Tryz.underlying206
 a127 := Tryz.isAgg206
 z127 := Tryz.sizeOf206
 v127 := Tryz.zeroValue206 }
theorem Tryz.Builder_Extra_169 : Builder.Extra Tryz.prog Tryz.lays169_ren := {
 sizeBuilder := by kernel_rfl
 liesBuilder := by kernel_rfl
 t5 := Tryz.underlying5
 a5 := Tryz.isAgg5
 z5 := Tryz.sizeOf5
 v5 := Tryz.zeroValue5
 infoByte := by kernel_rfl
 cellsByte := by kernel_rfl
 sizeByte := by kernel_rfl
 neB5 := by decide }
def Tryz.lays156_ren : Go.Shelf.Ren := ⟨fun | 156 => 101 | 165 => 128 | 166 => 100 | 169 => 104 | 240 => 127 | 241 => 139 | 276 => 138 | 277 => 149 | n => n, fun | 31 => 22 | 9 => 9 | 3 => 3 | 4 => 4 | 0 => 0 | 20 => 20 | 72 => 171 | 76 => 174 | 70 => 168 | 37 => 169 | 75 => 173 | 127 => 206 | 164 => 213 | 5 => 5 | 80 => 77 | n => n, fun | n => n⟩
theorem Tryz.lays156 : Go.Proofs.Lays.n156 Tryz.prog Tryz.lays156_ren := {
 mixed := by kernel_rfl
 f156 := Tryz.func101.trans (congrArg some (by kernel_rfl))
 f165 := Tryz.func128.trans (congrArg some (by kernel_rfl))
 f166 := Tryz.func100.trans (congrArg some (by kernel_rfl))
 f169 := Tryz.func104.trans (congrArg some (by kernel_rfl))
 f240 := Tryz.func127.trans (congrArg some (by kernel_rfl))
 f241 := Tryz.func139.trans (congrArg some (by kernel_rfl))
 f276 := Tryz.func138.trans (congrArg some (by kernel_rfl))
 f277 := Tryz.func149.trans (congrArg some (by kernel_rfl))
 t0 := Tryz.underlying0
 a0 := Tryz.isAgg0
 z0 := Tryz.sizeOf0
 v0 := Tryz.zeroValue0
 t3 := Tryz.underlying3
 a3 := Tryz.isAgg3
 z3 := Tryz.sizeOf3
 v3 := Tryz.zeroValue3
 t4 := Tryz.underlying4
 a4 := Tryz.isAgg4
 z4 := Tryz.sizeOf4
 v4 := Tryz.zeroValue4
 t9 := Tryz.underlying9
 a9 := Tryz.isAgg9
 z9 := Tryz.sizeOf9
 v9 := Tryz.zeroValue9
 t20 := Tryz.underlying20
 a20 := Tryz.isAgg20
 z20 := Tryz.sizeOf20
 v20 := Tryz.zeroValue20
 t31 := Tryz.underlying22
 a31 := Tryz.isAgg22
 z31 := Tryz.sizeOf22
 v31 := Tryz.zeroValue22
 t37 := Tryz.underlying169
 a37 := Tryz.isAgg169
 z37 := Tryz.sizeOf169
 v37 := Tryz.zeroValue169
 t70 := Tryz.underlying168
 a70 := Tryz.isAgg168
 z70 := Tryz.sizeOf168
 v70 := Tryz.zeroValue168
 t72 := Tryz.underlying171
 a72 := Tryz.isAgg171
 z72 := Tryz.sizeOf171
 v72 := Tryz.zeroValue171
 t75 := Tryz.underlying173
 a75 := Tryz.isAgg173
 z75 := Tryz.sizeOf173
 v75 := Tryz.zeroValue173
 t76 := Tryz.underlying174
 a76 := Tryz.isAgg174
 z76 := Tryz.sizeOf174
 v76 := Tryz.zeroValue174
 t127 := Tryz.underlying206
 a127 := Tryz.isAgg206
 z127 := Tryz.sizeOf206
 v127 := Tryz.zeroValue206
 t164 := Tryz.underlying213
 a164 := Tryz.isAgg213
 z164 := Tryz.sizeOf213
 v164 := Tryz.zeroValue213 }
theorem Tryz.Builder_Extra_156 : Builder.Extra Tryz.prog Tryz.lays156_ren := {
 sizeBuilder := by kernel_rfl
 liesBuilder := by kernel_rfl
 t5 := Tryz.underlying5
 a5 := Tryz.isAgg5
 z5 := Tryz.sizeOf5
 v5 := Tryz.zeroValue5
 infoByte := by kernel_rfl
 cellsByte := by kernel_rfl
 sizeByte := by kernel_rfl
 neB5 := by decide }
theorem Tryz.strings_Join (bk o c : Nat) (xs : List ByteArray) (sep : ByteArray) (w : World) (hcells : ∀ (j : Nat) x, xs[j]? = some x → w.cell? ⟨bk, o + j, none⟩ = some (.string x)) (hbk : bk < w.heap.size) (hN : xs.length ≤ 140737488355328) (hcap : xs.length ≤ c) (hlen : (Lib.join (xs.map (·.data.toList)) sep.data.toList).length ≤ 140737488355328) :
  Calls Tryz.prog 101 #[.slice (some ⟨bk, o, none⟩) xs.length c, .string sep] w fun e w' => e = .returned (.string ⟨(Lib.join (xs.map (·.data.toList)) sep.data.toList).toArray⟩) ∧ Below w.heap.size w w' := Any.strings_Join Tryz.lays156 Tryz.Builder_Extra_156 bk o c xs sep w hcells hbk hN hcap hlen
def Tryz.lays137_ren : Go.Shelf.Ren := ⟨fun | 137 => 106 | 217 => 130 | 266 => 141 | n => n, fun | 9 => 9 | 5 => 5 | 3 => 3 | n => n, fun | n => n⟩
theorem Tryz.lays137 : Go.Proofs.Lays.n137 Tryz.prog Tryz.lays137_ren := {
 mixed := by kernel_rfl
 f137 := Tryz.func106.trans (congrArg some (by kernel_rfl))
 f217 := Tryz.func130.trans (congrArg some (by kernel_rfl))
 f266 := Tryz.func141.trans (congrArg some (by kernel_rfl))
 t3 := Tryz.underlying3
 a3 := Tryz.isAgg3
 z3 := Tryz.sizeOf3
 v3 := Tryz.zeroValue3
 t5 := Tryz.underlying5
 a5 := Tryz.isAgg5
 z5 := Tryz.sizeOf5
 v5 := Tryz.zeroValue5
 t9 := Tryz.underlying9
 a9 := Tryz.isAgg9
 z9 := Tryz.sizeOf9
 v9 := Tryz.zeroValue9 }
theorem Tryz.strings_IndexByte (s : ByteArray) (c : Int) (w : World) :
  Calls Tryz.prog 106 #[.string s, .int .u8 c] w fun e w' => e = .returned (.int .i64 (Lib.indexByte s.data.toList c.toNat.toUInt8)) ∧ w' = w := Any.strings_IndexByte Tryz.lays137 s c w
theorem Tryz.Builder_String_any_k (B b : Nat) (l : List UInt8) (w : World) (h : Lib.IsBuilderF 171 5 B b (Lib.byteCells l) w) (hBw : B ≤ w.heap.size) :
  Calls Tryz.prog 104 #[.pointer (some ⟨b, 0, none⟩)] w fun e w' => e = .returned (.string ⟨l.toArray⟩) ∧ (Lib.IsBuilderF 171 5 B b (Lib.byteCells l) w' ∧ Below B w w' ∧ Lib.OthersKept 5 (some b) w w') := Any.Builder_String_any_k Tryz.lays169 Tryz.Builder_Extra_169 B b l w h hBw
def Tryz.lays172_ren : Go.Shelf.Ren := ⟨fun | 172 => 131 | 244 => 142 | 245 => 143 | 247 => 154 | 279 => 155 | 280 => 156 | 281 => 157 | 282 => 158 | 287 => 167 | 316 => 168 | 171 => 102 | 205 => 169 | 321 => 171 | 322 => 172 | 243 => 129 | 246 => 140 | 283 => 150 | 284 => 151 | 285 => 152 | 286 => 153 | 129 => 164 | 317 => 163 | 318 => 165 | 319 => 166 | 320 => 89 | 337 => 124 | 338 => 125 | n => n, fun | 9 => 9 | 3 => 3 | 75 => 173 | 76 => 174 | 4 => 4 | 5 => 5 | 167 => 224 | 37 => 169 | 0 => 0 | 85 => 225 | 2 => 2 | 168 => 227 | 53 => 197 | 175 => 233 | 46 => 148 | 210 => 237 | 127 => 206 | 145 => 248 | 143 => 246 | 21 => 21 | 171 => 220 | 173 => 222 | 212 => 231 | 51 => 195 | 20 => 20 | 213 => 232 | 232 => 211 | 233 => 212 | 80 => 77 | n => n, fun | 15 => 4 | 16 => 5 | 17 => 3 | 18 => 0 | 19 => 1 | n => n⟩
theorem Tryz.lays172 : Go.Proofs.Lays.n172 Tryz.prog Tryz.lays172_ren := {
 mixed := by kernel_rfl
 f129 := Tryz.func164.trans (congrArg some (by kernel_rfl))
 f171 := Tryz.func102.trans (congrArg some (by kernel_rfl))
 f172 := Tryz.func131.trans (congrArg some (by kernel_rfl))
 f205 := Tryz.func169.trans (congrArg some (by kernel_rfl))
 f243 := Tryz.func129.trans (congrArg some (by kernel_rfl))
 f244 := Tryz.func142.trans (congrArg some (by kernel_rfl))
 f245 := Tryz.func143.trans (congrArg some (by kernel_rfl))
 f246 := Tryz.func140.trans (congrArg some (by kernel_rfl))
 f247 := Tryz.func154.trans (congrArg some (by kernel_rfl))
 f279 := Tryz.func155.trans (congrArg some (by kernel_rfl))
 f280 := Tryz.func156.trans (congrArg some (by kernel_rfl))
 f281 := Tryz.func157.trans (congrArg some (by kernel_rfl))
 f282 := Tryz.func158.trans (congrArg some (by kernel_rfl))
 f283 := Tryz.func150.trans (congrArg some (by kernel_rfl))
 f284 := Tryz.func151.trans (congrArg some (by kernel_rfl))
 f285 := Tryz.func152.trans (congrArg some (by kernel_rfl))
 f286 := Tryz.func153.trans (congrArg some (by kernel_rfl))
 f287 := Tryz.func167.trans (congrArg some (by kernel_rfl))
 f316 := Tryz.func168.trans (congrArg some (by kernel_rfl))
 f317 := Tryz.func163.trans (congrArg some (by kernel_rfl))
 f318 := Tryz.func165.trans (congrArg some (by kernel_rfl))
 f319 := Tryz.func166.trans (congrArg some (by kernel_rfl))
 f320 := Tryz.func89.trans (congrArg some (by kernel_rfl))
 f321 := Tryz.func171.trans (congrArg some (by kernel_rfl))
 f322 := Tryz.func172.trans (congrArg some (by kernel_rfl))
 f337 := Tryz.func124.trans (congrArg some (by kernel_rfl))
 f338 := Tryz.func125.trans (congrArg some (by kernel_rfl))
 t0 := Tryz.underlying0
 a0 := Tryz.isAgg0
 z0 := Tryz.sizeOf0
 v0 := Tryz.zeroValue0
 t2 := Tryz.underlying2
 a2 := Tryz.isAgg2
 z2 := Tryz.sizeOf2
 v2 := Tryz.zeroValue2
 t3 := Tryz.underlying3
 a3 := Tryz.isAgg3
 z3 := Tryz.sizeOf3
 v3 := Tryz.zeroValue3
 t4 := Tryz.underlying4
 a4 := Tryz.isAgg4
 z4 := Tryz.sizeOf4
 v4 := Tryz.zeroValue4
 t5 := Tryz.underlying5
 a5 := Tryz.isAgg5
 z5 := Tryz.sizeOf5
 v5 := Tryz.zeroValue5
 t9 := Tryz.underlying9
 a9 := Tryz.isAgg9
 z9 := Tryz.sizeOf9
 v9 := Tryz.zeroValue9
 t20 := Tryz.underlying20
 a20 := Tryz.isAgg20
 z20 := Tryz.sizeOf20
 v20 := Tryz.zeroValue20
 t21 := Tryz.underlying21
 a21 := Tryz.isAgg21
 z21 := Tryz.sizeOf21
 v21 := Tryz.zeroValue21
 t37 := Tryz.underlying169
 a37 := Tryz.isAgg169
 z37 := Tryz.sizeOf169
 v37 := Tryz.zeroValue169
 t46 := Tryz.underlying148
 a46 := Tryz.isAgg148
 z46 := Tryz.sizeOf148
 v46 := Tryz.zeroValue148
 t51 := Tryz.underlying195
 a51 := Tryz.isAgg195
 z51 := Tryz.sizeOf195
 v51 := Tryz.zeroValue195
 t53 := Tryz.underlying197
 a53 := Tryz.isAgg197
 z53 := Tryz.sizeOf197
 v53 := Tryz.zeroValue197
 t75 := Tryz.underlying173
 a75 := Tryz.isAgg173
 z75 := Tryz.sizeOf173
 v75 := Tryz.zeroValue173
 t76 := Tryz.underlying174
 a76 := Tryz.isAgg174
 z76 := Tryz.sizeOf174
 v76 := Tryz.zeroValue174
 t85 := Tryz.underlying225
 a85 := Tryz.isAgg225
 z85 := Tryz.sizeOf225
 v85 := Tryz.zeroValue225
 t127 := Tryz.underlying206
 a127 := Tryz.isAgg206
 z127 := Tryz.sizeOf206
 v127 := Tryz.zeroValue206
 t143 := Tryz.underlying246
 a143 := Tryz.isAgg246
 z143 := Tryz.sizeOf246
 v143 := Tryz.zeroValue246
 t145 := Tryz.underlying248
 a145 := Tryz.isAgg248
 z145 := Tryz.sizeOf248
 v145 := Tryz.zeroValue248
 t167 := Tryz.underlying224
 a167 := Tryz.isAgg224
 z167 := Tryz.sizeOf224
 v167 := Tryz.zeroValue224
 t168 := Tryz.underlying227
 a168 := Tryz.isAgg227
 z168 := Tryz.sizeOf227
 v168 := Tryz.zeroValue227
 t171 := Tryz.underlying220
 a171 := Tryz.isAgg220
 z171 := Tryz.sizeOf220
 v171 := Tryz.zeroValue220
 t173 := Tryz.underlying222
 a173 := Tryz.isAgg222
 z173 := Tryz.sizeOf222
 v173 := Tryz.zeroValue222
 t175 := Tryz.underlying233
 a175 := Tryz.isAgg233
 z175 := Tryz.sizeOf233
 v175 := Tryz.zeroValue233
 t210 := Tryz.underlying237
 a210 := Tryz.isAgg237
 z210 := Tryz.sizeOf237
 v210 := Tryz.zeroValue237
 t212 := Tryz.underlying231
 a212 := Tryz.isAgg231
 z212 := Tryz.sizeOf231
 v212 := Tryz.zeroValue231
 t213 := Tryz.underlying232
 a213 := Tryz.isAgg232
 z213 := Tryz.sizeOf232
 t232 := Tryz.underlying211
 a232 := Tryz.isAgg211
 z232 := Tryz.sizeOf211
 v232 := Tryz.zeroValue211
 t233 := Tryz.underlying212
 a233 := Tryz.isAgg212
 z233 := Tryz.sizeOf212
 v233 := Tryz.zeroValue212
 g15 := by kernel_rfl
 g16 := by kernel_rfl
 g17 := by kernel_rfl
 g18 := by kernel_rfl
 g19 := by kernel_rfl }
theorem Tryz.strconv_Atoi (s : ByteArray) (n : Int) (hl : s.size ≤ 18) (h : Lib.atoi s.data.toList = some n) (w : World) :
  Calls Tryz.prog 131 #[.string s] w fun e w' => e = .returned (.tuple #[.int .i64 n, .nilIface]) ∧ ∃ t, w' = Lib.bytesWorld w 5 t := Any.strconv_Atoi Tryz.lays172 s n hl h w
def Tryz.laysM171_ren : Go.Shelf.Ren := ⟨fun | 171 => 102 | 243 => 129 | 246 => 140 | 283 => 150 | 284 => 151 | 285 => 152 | 286 => 153 | 129 => 164 | 317 => 163 | 318 => 165 | 319 => 166 | 320 => 89 | 337 => 124 | 338 => 125 | n => n, fun | 3 => 3 | 9 => 9 | 2 => 2 | 4 => 4 | 171 => 220 | 0 => 0 | 53 => 197 | 37 => 169 | 5 => 5 | 173 => 222 | 212 => 231 | 51 => 195 | 20 => 20 | 213 => 232 | 46 => 148 | 232 => 211 | 233 => 212 | n => n, fun | 17 => 3 | 18 => 0 | 19 => 1 | n => n⟩
theorem Tryz.laysM171 : Go.Proofs.LaysM.n171 Tryz.prog Tryz.laysM171_ren := {
 mixed := by kernel_rfl
 f129 := Tryz.func164.trans (congrArg some (by kernel_rfl))
 f171 := Tryz.func102.trans (congrArg some (by kernel_rfl))
 f243 := Tryz.func129.trans (congrArg some (by kernel_rfl))
 f246 := Tryz.func140.trans (congrArg some (by kernel_rfl))
 f283 := Tryz.func150.trans (congrArg some (by kernel_rfl))
 f284 := Tryz.func151.trans (congrArg some (by kernel_rfl))
 f285 := Tryz.func152.trans (congrArg some (by kernel_rfl))
 f286 := Tryz.func153.trans (congrArg some (by kernel_rfl))
 f317 := Tryz.func163.trans (congrArg some (by kernel_rfl))
 f318 := Tryz.func165.trans (congrArg some (by kernel_rfl))
 f319 := Tryz.func166.trans (congrArg some (by kernel_rfl))
 f320 := Tryz.func89.trans (congrArg some (by kernel_rfl))
 f337 := Tryz.func124.trans (congrArg some (by kernel_rfl))
 f338 := Tryz.func125.trans (congrArg some (by kernel_rfl))
 t0 := Tryz.underlying0
 a0 := Tryz.isAgg0
 z0 := Tryz.sizeOf0
 v0 := Tryz.zeroValue0
 t2 := Tryz.underlying2
 a2 := Tryz.isAgg2
 z2 := Tryz.sizeOf2
 v2 := Tryz.zeroValue2
 t3 := Tryz.underlying3
 a3 := Tryz.isAgg3
 z3 := Tryz.sizeOf3
 v3 := Tryz.zeroValue3
 t4 := Tryz.underlying4
 a4 := Tryz.isAgg4
 z4 := Tryz.sizeOf4
 v4 := Tryz.zeroValue4
 t5 := Tryz.underlying5
 a5 := Tryz.isAgg5
 z5 := Tryz.sizeOf5
 v5 := Tryz.zeroValue5
 t9 := Tryz.underlying9
 a9 := Tryz.isAgg9
 z9 := Tryz.sizeOf9
 v9 := Tryz.zeroValue9
 t20 := Tryz.underlying20
 a20 := Tryz.isAgg20
 z20 := Tryz.sizeOf20
 v20 := Tryz.zeroValue20
 t37 := Tryz.underlying169
 a37 := Tryz.isAgg169
 z37 := Tryz.sizeOf169
 v37 := Tryz.zeroValue169
 t46 := Tryz.underlying148
 a46 := Tryz.isAgg148
 z46 := Tryz.sizeOf148
 v46 := Tryz.zeroValue148
 t51 := Tryz.underlying195
 a51 := Tryz.isAgg195
 z51 := Tryz.sizeOf195
 v51 := Tryz.zeroValue195
 t53 := Tryz.underlying197
 a53 := Tryz.isAgg197
 z53 := Tryz.sizeOf197
 v53 := Tryz.zeroValue197
 t171 := Tryz.underlying220
 a171 := Tryz.isAgg220
 z171 := Tryz.sizeOf220
 v171 := Tryz.zeroValue220
 t173 := Tryz.underlying222
 a173 := Tryz.isAgg222
 z173 := Tryz.sizeOf222
 v173 := Tryz.zeroValue222
 t212 := Tryz.underlying231
 a212 := Tryz.isAgg231
 z212 := Tryz.sizeOf231
 v212 := Tryz.zeroValue231
 t213 := Tryz.underlying232
 a213 := Tryz.isAgg232
 z213 := Tryz.sizeOf232
 t232 := Tryz.underlying211
 a232 := Tryz.isAgg211
 z232 := Tryz.sizeOf211
 v232 := Tryz.zeroValue211
 t233 := Tryz.underlying212
 a233 := Tryz.isAgg212
 z233 := Tryz.sizeOf212
 v233 := Tryz.zeroValue212
 g17 := by kernel_rfl
 g18 := by kernel_rfl
 g19 := by kernel_rfl
 i0 := by kernel_rfl
 i2 := by kernel_rfl
 i3 := by kernel_rfl
 i4 := by kernel_rfl
 i5 := by kernel_rfl
 i9 := by kernel_rfl
 i20 := by kernel_rfl
 i37 := by kernel_rfl
 i46 := by kernel_rfl
 i51 := by kernel_rfl
 i53 := by kernel_rfl
 i171 := by kernel_rfl
 i173 := by kernel_rfl
 i212 := by kernel_rfl
 i232 := by kernel_rfl
 i233 := by kernel_rfl
 m17 := by kernel_rfl
 m18 := by kernel_rfl
 m19 := by kernel_rfl }
theorem Tryz.strconv_Itoa (n : Int) (h0 : -9223372036854775808 ≤ n) (h1 : n ≤ 9223372036854775807) (w : World) (htab : Lib.TabIs Tryz.prog w "internal/strconv.uint64pow10" .u64 Lib.pow10Tab) :
  Calls Tryz.prog 102 #[.int .i64 n] w fun e w' => e = .returned (.string ⟨(Lib.itoa n).toArray⟩) ∧ ∃ k os, w' = grow (w.drewN k) os := Any.strconv_Itoa Tryz.laysM171 n h0 h1 w htab
def Tryz.lays143_ren : Go.Shelf.Ren := ⟨fun | 143 => 134 | 219 => 147 | 217 => 130 | 225 => 160 | 224 => 161 | 267 => 162 | 266 => 141 | 314 => 170 | n => n, fun | 9 => 9 | 3 => 3 | 4 => 4 | 5 => 5 | 46 => 148 | 146 => 243 | 51 => 195 | n => n, fun | 1 => 2 | n => n⟩
theorem Tryz.lays143 : Go.Proofs.Lays.n143 Tryz.prog Tryz.lays143_ren := {
 mixed := by kernel_rfl
 f143 := Tryz.func134.trans (congrArg some (by kernel_rfl))
 f217 := Tryz.func130.trans (congrArg some (by kernel_rfl))
 f219 := Tryz.func147.trans (congrArg some (by kernel_rfl))
 f224 := Tryz.func161.trans (congrArg some (by kernel_rfl))
 f225 := Tryz.func160.trans (congrArg some (by kernel_rfl))
 f266 := Tryz.func141.trans (congrArg some (by kernel_rfl))
 f267 := Tryz.func162.trans (congrArg some (by kernel_rfl))
 f314 := Tryz.func170.trans (congrArg some (by kernel_rfl))
 t3 := Tryz.underlying3
 a3 := Tryz.isAgg3
 z3 := Tryz.sizeOf3
 v3 := Tryz.zeroValue3
 t4 := Tryz.underlying4
 a4 := Tryz.isAgg4
 z4 := Tryz.sizeOf4
 v4 := Tryz.zeroValue4
 t5 := Tryz.underlying5
 a5 := Tryz.isAgg5
 z5 := Tryz.sizeOf5
 v5 := Tryz.zeroValue5
 t9 := Tryz.underlying9
 a9 := Tryz.isAgg9
 z9 := Tryz.sizeOf9
 v9 := Tryz.zeroValue9
 t46 := Tryz.underlying148
 a46 := Tryz.isAgg148
 z46 := Tryz.sizeOf148
 v46 := Tryz.zeroValue148
 t51 := Tryz.underlying195
 a51 := Tryz.isAgg195
 z51 := Tryz.sizeOf195
 v51 := Tryz.zeroValue195
 t146 := Tryz.underlying243
 a146 := Tryz.isAgg243
 z146 := Tryz.sizeOf243
 v146 := Tryz.zeroValue243
 g1 := by kernel_rfl }
def Tryz.lays138_ren : Go.Shelf.Ren := ⟨fun | 138 => 133 | 195 => 144 | 218 => 146 | 143 => 134 | 219 => 147 | 217 => 130 | 225 => 160 | 224 => 161 | 267 => 162 | 266 => 141 | 314 => 170 | n => n, fun | 9 => 9 | 3 => 3 | 4 => 4 | 5 => 5 | 0 => 0 | 46 => 148 | 146 => 243 | 51 => 195 | n => n, fun | 1 => 2 | n => n⟩
theorem Tryz.lays138 : Go.Proofs.Lays.n138 Tryz.prog Tryz.lays138_ren := {
 mixed := by kernel_rfl
 f138 := Tryz.func133.trans (congrArg some (by kernel_rfl))
 f143 := Tryz.func134.trans (congrArg some (by kernel_rfl))
 f195 := Tryz.func144.trans (congrArg some (by kernel_rfl))
 f217 := Tryz.func130.trans (congrArg some (by kernel_rfl))
 f218 := Tryz.func146.trans (congrArg some (by kernel_rfl))
 f219 := Tryz.func147.trans (congrArg some (by kernel_rfl))
 f224 := Tryz.func161.trans (congrArg some (by kernel_rfl))
 f225 := Tryz.func160.trans (congrArg some (by kernel_rfl))
 f266 := Tryz.func141.trans (congrArg some (by kernel_rfl))
 f267 := Tryz.func162.trans (congrArg some (by kernel_rfl))
 f314 := Tryz.func170.trans (congrArg some (by kernel_rfl))
 t0 := Tryz.underlying0
 a0 := Tryz.isAgg0
 z0 := Tryz.sizeOf0
 v0 := Tryz.zeroValue0
 t3 := Tryz.underlying3
 a3 := Tryz.isAgg3
 z3 := Tryz.sizeOf3
 v3 := Tryz.zeroValue3
 t4 := Tryz.underlying4
 a4 := Tryz.isAgg4
 z4 := Tryz.sizeOf4
 v4 := Tryz.zeroValue4
 t5 := Tryz.underlying5
 a5 := Tryz.isAgg5
 z5 := Tryz.sizeOf5
 v5 := Tryz.zeroValue5
 t9 := Tryz.underlying9
 a9 := Tryz.isAgg9
 z9 := Tryz.sizeOf9
 v9 := Tryz.zeroValue9
 t46 := Tryz.underlying148
 a46 := Tryz.isAgg148
 z46 := Tryz.sizeOf148
 v46 := Tryz.zeroValue148
 t51 := Tryz.underlying195
 a51 := Tryz.isAgg195
 z51 := Tryz.sizeOf195
 v51 := Tryz.zeroValue195
 t146 := Tryz.underlying243
 a146 := Tryz.isAgg243
 z146 := Tryz.sizeOf243
 v146 := Tryz.zeroValue243
 g1 := by kernel_rfl }
def Tryz.lays102_ren : Go.Shelf.Ren := ⟨fun | 102 => 69 | 209 => 111 | 207 => 135 | n => n, fun | 9 => 9 | 4 => 4 | 3 => 3 | n => n, fun | n => n⟩
theorem Tryz.lays102 : Go.Proofs.Lays.n102 Tryz.prog Tryz.lays102_ren := {
 mixed := by kernel_rfl
 f102 := Tryz.func69.trans (congrArg some (by kernel_rfl))
 f207 := Tryz.func135.trans (congrArg some (by kernel_rfl))
 f209 := Tryz.func111.trans (congrArg some (by kernel_rfl))
 t3 := Tryz.underlying3
 a3 := Tryz.isAgg3
 z3 := Tryz.sizeOf3
 v3 := Tryz.zeroValue3
 t4 := Tryz.underlying4
 a4 := Tryz.isAgg4
 z4 := Tryz.sizeOf4
 v4 := Tryz.zeroValue4
 t9 := Tryz.underlying9
 a9 := Tryz.isAgg9
 z9 := Tryz.sizeOf9
 v9 := Tryz.zeroValue9 }
theorem Tryz.strings_TrimSuffix (s p : ByteArray) (w : World) (hs : s.size ≤ 9223372036854775807) :
  Calls Tryz.prog 69 #[.string s, .string p] w fun e w' => e = .returned (.string ⟨(Lib.trimSuffix s.data.toList p.data.toList).toArray⟩) ∧ w' = w := Any.strings_TrimSuffix Tryz.lays102 s p w hs
def Tryz.lays221_ren : Go.Shelf.Ren := ⟨fun | 221 => 110 | 268 => 132 | 138 => 133 | 143 => 134 | 195 => 144 | 197 => 145 | 218 => 146 | 219 => 147 | 260 => 159 | 217 => 130 | 225 => 160 | 224 => 161 | 267 => 162 | 266 => 141 | 314 => 170 | n => n, fun | 9 => 9 | 3 => 3 | 31 => 22 | 4 => 4 | 0 => 0 | 105 => 217 | 21 => 21 | 5 => 5 | 46 => 148 | 119 => 239 | 139 => 242 | 138 => 241 | 146 => 243 | 51 => 195 | n => n, fun | 1 => 2 | 3 => 6 | 4 => 7 | n => n⟩
theorem Tryz.lays221 : Go.Proofs.Lays.n221 Tryz.prog Tryz.lays221_ren := {
 mixed := by kernel_rfl
 f138 := Tryz.func133.trans (congrArg some (by kernel_rfl))
 f143 := Tryz.func134.trans (congrArg some (by kernel_rfl))
 f195 := Tryz.func144.trans (congrArg some (by kernel_rfl))
 f197 := Tryz.func145.trans (congrArg some (by kernel_rfl))
 f217 := Tryz.func130.trans (congrArg some (by kernel_rfl))
 f218 := Tryz.func146.trans (congrArg some (by kernel_rfl))
 f219 := Tryz.func147.trans (congrArg some (by kernel_rfl))
 f221 := Tryz.func110.trans (congrArg some (by kernel_rfl))
 f224 := Tryz.func161.trans (congrArg some (by kernel_rfl))
 f225 := Tryz.func160.trans (congrArg some (by kernel_rfl))
 f260 := Tryz.func159.trans (congrArg some (by kernel_rfl))
 f266 := Tryz.func141.trans (congrArg some (by kernel_rfl))
 f267 := Tryz.func162.trans (congrArg some (by kernel_rfl))
 f268 := Tryz.func132.trans (congrArg some (by kernel_rfl))
 f314 := Tryz.func170.trans (congrArg some (by kernel_rfl))
 t0 := Tryz.underlying0
 a0 := Tryz.isAgg0
 z0 := Tryz.sizeOf0
 v0 := Tryz.zeroValue0
 t3 := Tryz.underlying3
 a3 := Tryz.isAgg3
 z3 := Tryz.sizeOf3
 v3 := Tryz.zeroValue3
 t4 := Tryz.underlying4
 a4 := Tryz.isAgg4
 z4 := Tryz.sizeOf4
 v4 := Tryz.zeroValue4
 t5 := Tryz.underlying5
 a5 := Tryz.isAgg5
 z5 := Tryz.sizeOf5
 v5 := Tryz.zeroValue5
 t9 := Tryz.underlying9
 a9 := Tryz.isAgg9
 z9 := Tryz.sizeOf9
 v9 := Tryz.zeroValue9
 t21 := Tryz.underlying21
 a21 := Tryz.isAgg21
 z21 := Tryz.sizeOf21
 v21 := Tryz.zeroValue21
 t31 := Tryz.underlying22
 a31 := Tryz.isAgg22
 z31 := Tryz.sizeOf22
 v31 := Tryz.zeroValue22
 t46 := Tryz.underlying148
 a46 := Tryz.isAgg148
 z46 := Tryz.sizeOf148
 v46 := Tryz.zeroValue148
 t51 := Tryz.underlying195
 a51 := Tryz.isAgg195
 z51 := Tryz.sizeOf195
 v51 := Tryz.zeroValue195
 t105 := Tryz.underlying217
 a105 := Tryz.isAgg217
 z105 := Tryz.sizeOf217
 v105 := Tryz.zeroValue217
 t119 := Tryz.underlying239
 a119 := Tryz.isAgg239
 z119 := Tryz.sizeOf239
 t138 := Tryz.underlying241
 a138 := Tryz.isAgg241
 z138 := Tryz.sizeOf241
 v138 := Tryz.zeroValue241
 t139 := Tryz.underlying242
 a139 := Tryz.isAgg242
 z139 := Tryz.sizeOf242
 v139 := Tryz.zeroValue242
 t146 := Tryz.underlying243
 a146 := Tryz.isAgg243
 z146 := Tryz.sizeOf243
 v146 := Tryz.zeroValue243
 g1 := by kernel_rfl
 g3 := by kernel_rfl
 g4 := by kernel_rfl }
def Tryz.lays109_ren : Go.Shelf.Ren := ⟨fun | 109 => 108 | n => n, fun | 31 => 22 | 9 => 9 | 3 => 3 | 0 => 0 | 4 => 4 | n => n, fun | n => n⟩
theorem Tryz.lays109 : Go.Proofs.Lays.n109 Tryz.prog Tryz.lays109_ren := {
 mixed := by kernel_rfl
 f109 := Tryz.func108.trans (congrArg some (by kernel_rfl))
 t0 := Tryz.underlying0
 a0 := Tryz.isAgg0
 z0 := Tryz.sizeOf0
 v0 := Tryz.zeroValue0
 t3 := Tryz.underlying3
 a3 := Tryz.isAgg3
 z3 := Tryz.sizeOf3
 v3 := Tryz.zeroValue3
 t4 := Tryz.underlying4
 a4 := Tryz.isAgg4
 z4 := Tryz.sizeOf4
 v4 := Tryz.zeroValue4
 t9 := Tryz.underlying9
 a9 := Tryz.isAgg9
 z9 := Tryz.sizeOf9
 v9 := Tryz.zeroValue9
 t31 := Tryz.underlying22
 a31 := Tryz.isAgg22
 z31 := Tryz.sizeOf22
 v31 := Tryz.zeroValue22 }
theorem Tryz.slices_Index_string (b off n c : Nat) (zs : List ByteArray) (x : ByteArray) (w : World) (hz : n ≤ zs.length) (hbig : n ≤ 9223372036854775807) (hc : ∀ j, j < zs.length → w.cell? ⟨b, off + j, none⟩ = some (.string (zs.getD j ByteArray.empty))) :
  Calls Tryz.prog 108 #[.slice (some ⟨b, off, none⟩) n c, .string x] w fun e w' => e = .returned (.int .i64 (Lib.idxOfS (zs.take n) x)) ∧ w' = w := Any.slices_Index_string Tryz.lays109 b off n c zs x w hz hbig hc
end Go.Proofs
end
section
namespace Go.K
open Go.RowKit
def bld (T e : TypeId) (b : Nat) (p v : Value) (bs : List Value) : Chunk where
 foot := fun k => k = b ∨ v.ownBlock = some k
 holds := fun w => w.heap[b]? = some (.cells #[p, v] T (0, 0)) ∧ w.ownsRowF 0 e 1 v bs.length bs ∧ v.ownBlock ≠ some b
 loc := fun w w' h hk => by
  refine ⟨(hk b (.inl rfl)).trans h.1, ⟨h.2.1.1, ?_⟩, h.2.2⟩
  rcases h.2.1.2 with hn | ⟨g, cap, cur, fz, rfl, hb, hg, rest⟩
  ·exact .inl hn
  ·exact .inr ⟨g, cap, cur, fz, rfl, hb, (hk g (.inr rfl)).trans hg, rest⟩
 live := fun w k h hk => by
  rcases hk with rfl | hk
  ·exact lt_of_some h.1
  ·rcases h.2.1.2 with ⟨hn, _⟩ | ⟨g, cap, cur, fz, hv, hb, hg, rest⟩
   ·rw [hn] at hk; cases hk
   ·rw [hv] at hk; cases hk; exact lt_of_some hg
def NotE (e : TypeId) (c : Chunk) : Prop := ∀ w k, c.holds w → c.foot k → ∃ o, w.heap[k]? = some o ∧ ∀ cs fz, o ≠ .cells cs e fz
theorem notE_blk {e t : TypeId} {g : Nat} {cs : List Value} (h : (t == e) = false) : NotE e (blk g t cs) := fun w k hh hk => by
 cases hk
 exact ⟨_, hh, fun c f he => by cases he; simp at h⟩
section
variable {w0 w w' : World} {L : List Chunk} {T e : TypeId} {b : Nat} {p p' v : Value} {bs bs' : List Value} {G : World → Prop}
theorem notE_nil : ∀ c ∈ ([] : List Chunk), NotE e c := fun _ h => by cases h
theorem notE_cons {c : Chunk} (h : NotE e c) (hL : ∀ c ∈ L, NotE e c) : ∀ d ∈ c :: L, NotE e d := fun d hd => by
 rcases List.mem_cons.1 hd with rfl | hd
 ·exact h
 ·exact hL d hd
theorem bld_at (h : St w0 (bld T e b p v bs :: L) w) : Lib.BuilderAtF T e w0.heap.size b p bs w := by
 have h1 := h.2.1 _ (List.Mem.head _)
 refine ⟨h1.2 b (.inl rfl), v, h1.1.1, ⟨h1.1.2.1.1, ?_⟩, h1.1.2.2⟩
 rcases h1.1.2.1.2 with hn | ⟨g, cap, cur, fz, hv, hb, rest⟩
 ·exact .inl hn
 ·exact .inr ⟨g, cap, cur, fz, hv, h1.2 g (.inr (by rw [hv]; rfl)), rest⟩
theorem bld_is (h : St w0 (bld T e b p v bs :: L) w) (hp : p = .pointer none ∨ p = .pointer (some ⟨b, 0, none⟩)) : Lib.IsBuilderF T e w0.heap.size b bs w := by
 have h1 := bld_at h
 rcases hp with rfl | rfl
 ·exact .inl h1
 ·exact .inr h1
theorem bld_wrote (h : St w0 (bld T e b p v bs :: L) w) (hL : ∀ c ∈ L, NotE e c) (h1 : Lib.BuilderAtF T e w0.heap.size b p' bs' w') (h2 : Below w0.heap.size w w') (h3 : Lib.OthersKept e (some b) w w') : ∃ v', St w0 (bld T e b p' v' bs' :: L) w' := by
 obtain ⟨hB, v', hb, hrow, hne⟩ := h1
 have hp := List.pairwise_cons.1 h.2.2
 have hk : ∀ c ∈ L, ∀ k, c.foot k → w'.heap[k]? = w.heap[k]? ∧ ∀ cs fz, w.heap[k]? ≠ some (.cells cs e fz) := fun c hc k hf => by
  obtain ⟨o, ho, hno⟩ := hL c hc w k (h.2.1 c (List.Mem.tail _ hc)).1 hf
  have hkb : k ≠ b := fun e => hp.1 c hc b (.inl rfl) (e ▸ hf)
  exact ⟨(h3 k o ho (fun e => hkb (Option.some.inj e)) hno).trans ho.symm, fun cs fz e2 => by rw [ho] at e2; exact hno cs fz (Option.some.inj e2)⟩
 refine ⟨v', h.1.trans h2, fun c hc => ?_, List.pairwise_cons.2 ⟨fun c hc k hf hck => ?_, hp.2⟩⟩
 ·rcases List.mem_cons.1 hc with rfl | hc
  ·refine ⟨⟨hb, ⟨hrow.1, ?_⟩, hne⟩, fun k hk => ?_⟩
   ·rcases hrow.2 with hn | ⟨g, cap, cur, fz, hv, hb, rest⟩
    ·exact .inl hn
    ·exact .inr ⟨g, cap, cur, fz, hv, Nat.zero_le _, rest⟩
   ·rcases hk with rfl | hk
    ·exact hB
    ·rcases hrow.2 with ⟨hn, _⟩ | ⟨g, cap, cur, fz, hv, hb, rest⟩
     ·rw [hn] at hk; cases hk
     ·rw [hv] at hk; cases hk; exact hb
  ·exact ⟨c.loc _ _ (h.2.1 c (List.Mem.tail _ hc)).1 (fun k hf => (hk c hc k hf).1), (h.2.1 c (List.Mem.tail _ hc)).2⟩
 ·rcases hf with rfl | hf
  ·exact hp.1 c hc k (.inl rfl) hck
  ·rcases hrow.2 with ⟨hn, _⟩ | ⟨g, cap, cur, fz, hv, hb2, hg, rest⟩
   ·rw [hn] at hf; cases hf
   ·rw [hv] at hf; cases hf
    obtain ⟨e1, e2⟩ := hk c hc _ hck
    have hg' := e1.symm.trans hg
    exact e2 _ _ hg'
theorem blk_bld (kk : Hold w0 (bld T e b p (.slice none 0 0) [] :: L) G) : Hold w0 (blk b T [p, .slice none 0 0] :: L) G := fun w hw => kk w (by
 have h1 := hw.2.1 _ (List.Mem.head _)
 have h2 := List.pairwise_cons.1 hw.2.2
 have hf : ∀ k, (bld T e b p (.slice none 0 0) []).foot k → k = b := fun k hk => hk.elim id (fun h => by cases h)
 refine ⟨hw.1, fun c hc => ?_, List.pairwise_cons.2 ⟨fun c hc k hk => ?_, h2.2⟩⟩
 ·rcases List.mem_cons.1 hc with rfl | hc
  ·exact ⟨⟨h1.1, ⟨rfl, .inl ⟨rfl, rfl⟩⟩, by simp [Value.ownBlock]⟩, fun k hk => h1.2 k (hf k hk)⟩
  ·exact hw.2.1 c (List.Mem.tail _ hc)
 ·exact h2.1 c hc k (hf k hk))
end
section
variable {P : Program} {l : List Value} {d : Option Tmp} {ty : TypeId} {ps : String} {af : Array Edge} {g : Option (Nat × Bool)}
theorem add_s {xt yt : TypeId} {x y : Operand} {a c : ByteArray} (hx : ev l x = .string a) (hy : ev l y = .string c) (h : a.size + c.size ≤ 9223372036854775807) : Pure P ⟨d, .binOp .add xt x y yt, ty, ps, af, g⟩ l (.string (a ++ c)) := fun w => by
 simp only [execOp, hx, hy, eqGuard_add, binOp_string_add, Sem.run_bind, Sem.run_pure, Result.andThen_ok, run_string_add_sum w a c h]
theorem assertK {t u xt : TypeId} {x : Operand} {v z : Value} (h : con P t = true) (hx : ev l x = .iface u v) (hz : zr P t = some z) : Pure P ⟨d, .typeAssert x xt t true, ty, ps, af, g⟩ l (.tuple [if u = t then v else z, .bool (decide (u = t))].toArray) := by
 by_cases e : u = t
 ·subst e
  rw [if_pos rfl, decide_eq_true rfl]
  exact assertY h hx
 ·rw [if_neg e, decide_eq_false e]
  exact assertN h hx (by simpa using e) hz
end
end Go.K
end
section
namespace Go.Proofs.YtnhhfkgldoeifaaGreatDoor.Sh
open Go Go.RowKit
def TabT (w : World) : Prop := Lib.TabIs Tryz.prog w "internal/strconv.uint64pow10" .u64 Lib.pow10Tab
theorem tabT_keep {w w' : World} (h : TabT w) (hb : Below w.heap.size w w') : TabT w' := by
 unfold TabT Lib.TabIs World.var? at h ⊢
 cases hg : Tryz.prog.globalNamed "internal/strconv.uint64pow10" with
 | none => rw [hg] at h; cases h
 | some g =>
  rw [hg] at h
  simp only [Option.bind_some] at h ⊢
  have hlt : g < w.heap.size := by
   rcases Nat.lt_or_ge g w.heap.size with h1 | h1
   ·exact h1
   ·rw [Array.getElem?_eq_none h1] at h; cases h
  rw [hb.block g hlt]; exact h
theorem TabT.pass {w0 w : World} {F : List K.Chunk} (h : TabT w0) (hw : K.St w0 F w) : TabT w := tabT_keep h hw.1
theorem TabT.later {w w1 : World} (h : TabT w) (hb : Below w.heap.size w w1) : TabT w1 := tabT_keep h hb
theorem grow_below {w : World} {k : Nat} {os : Array Obj} : Below w.heap.size w (Sort.grow (w.drewN k) os) := by
 have h : (w.drewN k).heap = w.heap := rfl
 refine ⟨rfl, rfl, rfl, ?_, fun i hi => ?_⟩
 ·simp [Sort.grow, h]
 ·simp only [Sort.grow, h]; rw [Array.getElem?_append_left hi]
theorem c102 {n : Int} {w : World} (hn : -9223372036854775808 ≤ n ∧ n ≤ 9223372036854775807) (hT : TabT w) : Calls Tryz.prog 102 [.int .i64 n].toArray w (K.Gives (.string ⟨(Lib.itoa n).toArray⟩) w) :=
 (Tryz.strconv_Itoa n hn.1 hn.2 w hT).mono fun e w' h => by
  obtain ⟨rfl, k, os, rfl⟩ := h
  exact ⟨rfl, grow_below⟩
theorem c131 {s : ByteArray} {n : Int} {w : World} (hl : s.size ≤ 18) (h : Lib.atoi s.data.toList = some n) : Calls Tryz.prog 131 [.string s].toArray w (K.Gives (.tuple #[.int .i64 n, .nilIface]) w) :=
 (Tryz.strconv_Atoi s n hl h w).mono fun e w' h => by
  obtain ⟨rfl, t, rfl⟩ := h
  exact ⟨rfl, Lib.bytesWorld_below _ _ _⟩
theorem c69 {s p : ByteArray} {w : World} (hs : s.size ≤ 9223372036854775807) : Calls Tryz.prog 69 [.string s, .string p].toArray w (K.Gives (.string ⟨(Lib.trimSuffix s.data.toList p.data.toList).toArray⟩) w) :=
 (Tryz.strings_TrimSuffix s p w hs).mono fun e w' h => by
  obtain ⟨rfl, rfl⟩ := h
  exact ⟨rfl, Below.refl _ _⟩
theorem c106 {s : ByteArray} {c : Int} {w : World} : Calls Tryz.prog 106 [.string s, .int .u8 c].toArray w (K.Gives (.int .i64 (Lib.indexByte s.data.toList c.toNat.toUInt8)) w) :=
 (Tryz.strings_IndexByte s c w).mono fun e w' h => by
  obtain ⟨rfl, rfl⟩ := h
  exact ⟨rfl, Below.refl _ _⟩
theorem c101 {w0 w : World} {F : List K.Chunk} {bk : Nat} {ws : List ByteArray} {sep : ByteArray} (hw : K.St w0 F w) (hm : K.blk bk 9 (ws.flatMap eG) ∈ F) (hN : ws.length ≤ 140737488355328) (hlen : (Lib.join (ws.map (·.data.toList)) sep.data.toList).length ≤ 140737488355328) :
  Calls Tryz.prog 101 [.slice (some ⟨bk, 0, none⟩) ws.length ws.length, .string sep].toArray w (K.Gives (.string ⟨(Lib.join (ws.map (·.data.toList)) sep.data.toList).toArray⟩) w) := by
 have hR : K.Rd w (some ⟨bk, 0, none⟩) 1 eG ws := K.Rd.lit hw hm (fun _ => rfl) (by decide) rfl
 refine (Tryz.strings_Join bk 0 ws.length ws sep w (fun j x hx => ?_) (K.blk_lt hw hm) hN (Nat.le_refl _) hlen).mono fun e w' h => ⟨h.1, h.2⟩
 obtain ⟨a, ha, _, hc⟩ := hR j x hx
 cases ha
 have h1 := hc 0 (.string x) rfl
 rw [K.addr_add_add, K.add_lit] at h1
 simpa using h1
theorem c100 {w0 w : World} {L : List K.Chunk} {b : Nat} {p v : Value} {bs : List UInt8} {s : ByteArray} (hst : K.St w0 (K.bld 171 5 b p v (Lib.byteCells bs) :: L) w) (hL : ∀ c ∈ L, K.NotE 5 c) (hp : p = .pointer none ∨ p = .pointer (some ⟨b, 0, none⟩)) (hlen : bs.length + s.size ≤ 140737488355328) :
  Calls Tryz.prog 100 [.pointer (some ⟨b, 0, none⟩), .string s].toArray w (K.RetU (fun _ : Value => True) (fun _ => .tuple #[.int .i64 s.size, .nilIface]) w0 (fun z => K.bld 171 5 b (.pointer (some ⟨b, 0, none⟩)) z (Lib.byteCells (bs ++ s.data.toList)) :: L)) := by
 have h1 := Any.Builder_WriteString_k { Tryz.lays156 with } Tryz.Builder_Extra_156 w0.heap.size b (Lib.byteCells bs) s w (K.bld_is hst hp) (by rw [Lib.byteCells_length]; exact hlen) hst.1.size
 refine (show Calls Tryz.prog 100 #[.pointer (some ⟨b, 0, none⟩), .string s] w _ from h1).mono fun e w' h => ?_
 obtain ⟨rfl, ha, hb, hk⟩ := h
 rw [Lib.strCells_eq, ← Lib.byteCells_append] at ha
 obtain ⟨v', hs⟩ := K.bld_wrote hst hL ha hb hk
 exact ⟨v', trivial, rfl, hs⟩
theorem c104 {w0 w : World} {L : List K.Chunk} {b : Nat} {p v : Value} {bs : List UInt8} (hst : K.St w0 (K.bld 171 5 b p v (Lib.byteCells bs) :: L) w) (hL : ∀ c ∈ L, K.NotE 5 c) (hp : p = .pointer none ∨ p = .pointer (some ⟨b, 0, none⟩)) :
  Calls Tryz.prog 104 [.pointer (some ⟨b, 0, none⟩)].toArray w (K.RetU (fun _ : Value × Value => True) (fun _ => .string ⟨bs.toArray⟩) w0 (fun z => K.bld 171 5 b z.1 z.2 (Lib.byteCells bs) :: L)) := by
 refine (Tryz.Builder_String_any_k w0.heap.size b bs w (K.bld_is hst hp) hst.1.size).mono fun e w' h => ?_
 obtain ⟨rfl, ha, hb, hk⟩ := h
 rcases ha with ha | ha
 ·obtain ⟨v', hs⟩ := K.bld_wrote hst hL ha hb hk
  exact ⟨(_, v'), trivial, rfl, hs⟩
 ·obtain ⟨v', hs⟩ := K.bld_wrote hst hL ha hb hk
  exact ⟨(_, v'), trivial, rfl, hs⟩
theorem c108 {A : Option Addr} {c : Nat} {xs : List ByteArray} {x : ByteArray} {w : World} (hR : K.Rd w A 1 eG xs) (h0 : 1 ≤ xs.length) (hn : xs.length ≤ 9223372036854775807) (hA : ∃ b o, A = some ⟨b, o, none⟩) : Calls Tryz.prog 108 [.slice A xs.length c, .string x].toArray w (K.Gives (.int .i64 (Lib.idxOfS xs x)) w) := by
 obtain ⟨b, o, rfl⟩ := hA
 have h1 := Tryz.slices_Index_string b o xs.length c xs x w (Nat.le_refl _) hn (fun j hj => by
  obtain ⟨a, ha, _, hc⟩ := hR j _ (List.getElem?_eq_getElem hj)
  cases ha
  have h1 := hc 0 (.string xs[j]) rfl
  rw [K.addr_add_add, K.add_lit] at h1
  rw [List.getD_eq_getElem?_getD, List.getElem?_eq_getElem hj]
  simpa using h1)
 rw [List.take_length] at h1
 exact h1.mono fun e w' h => by
  obtain ⟨rfl, rfl⟩ := h
  exact ⟨rfl, Below.refl _ _⟩
end Go.Proofs.YtnhhfkgldoeifaaGreatDoor.Sh
end
section
namespace Go.Proofs.YtnhhfkgldoeifaaGreatDoor.Sh
open Go
def nm (s : ByteArray) : List UInt8 := s.data.toList
def bS (l : List UInt8) : ByteArray := ⟨l.toArray⟩
def lnL (ws : List (List UInt8)) : List UInt8 := Lib.join ws [32] ++ [10]
def txP (iv : Int) (pts : List ByteArray) (k : Nat) : List UInt8 := lnL [[115, 104, 101, 101, 116], Lib.itoa iv] ++ (pts.take k).flatMap fun p => lnL [[112, 111, 105, 110, 116], nm p]
def ntW (pts : List ByteArray) (x : NtT) : List (List UInt8) :=
 if x.kd = 1 then [[115, 112, 111, 116], nm (pts.getD x.a.toNat default), Lib.itoa x.lo, Lib.itoa x.hi]
 else if x.kd = 2 then [[99, 111, 110, 116, 111, 117, 114], nm (pts.getD x.a.toNat default), Lib.itoa x.lo, Lib.itoa x.hi]
 else if x.kd = 3 then [[108, 97, 107, 101], nm (pts.getD x.a.toNat default), nm (pts.getD x.b.toNat default)]
 else [[115, 108, 111, 112, 101], nm (pts.getD x.a.toNat default), nm (pts.getD x.b.toNat default), Lib.itoa x.lo, Lib.itoa x.hi]
def txN (iv : Int) (pts : List ByteArray) (nts : List NtT) (k : Nat) : List UInt8 := txP iv pts pts.length ++ (nts.take k).flatMap fun x => lnL (ntW pts x)
def txS (iv : Int) (pts : List ByteArray) (nts : List NtT) : List UInt8 := txN iv pts nts nts.length
section
variable {iv : Int} {pts : List ByteArray} {nts : List NtT} {k : Nat}
theorem take_s {E : Type} [Inhabited E] {xs : List E} (h : k < xs.length) : xs.take (k + 1) = xs.take k ++ [xs.getD k default] := by
 rw [List.take_add_one, List.getD_eq_getElem?_getD, List.getElem?_eq_getElem h]; rfl
theorem txP_s (h : k < pts.length) : txP iv pts (k + 1) = txP iv pts k ++ lnL [[112, 111, 105, 110, 116], nm (pts.getD k default)] := by
 unfold txP; rw [take_s h, List.flatMap_append, List.append_assoc]; simp
theorem txN_s (h : k < nts.length) : txN iv pts nts (k + 1) = txN iv pts nts k ++ lnL (ntW pts (nts.getD k default)) := by
 unfold txN; rw [take_s h, List.flatMap_append, List.append_assoc]; simp
theorem txP_0 : txP iv pts 0 = lnL [[115, 104, 101, 101, 116], Lib.itoa iv] := by unfold txP; simp
theorem txN_0 : txN iv pts nts 0 = txP iv pts pts.length := by unfold txN; simp
theorem txP_le (h : k ≤ pts.length) : (txP iv pts k).length ≤ (txP iv pts pts.length).length := by
 have h1 : ∀ n, k + n ≤ pts.length → (txP iv pts k).length ≤ (txP iv pts (k + n)).length := fun n => by
  induction n with
  | zero => intro _; exact Nat.le_refl _
  | succ n ih => intro hn; rw [show k + (n + 1) = (k + n) + 1 by omega, txP_s (by omega), List.length_append]; have := ih (by omega); omega
 have := h1 (pts.length - k) (by omega)
 rwa [show k + (pts.length - k) = pts.length by omega] at this
theorem txN_le (h : k ≤ nts.length) : (txN iv pts nts k).length ≤ (txS iv pts nts).length := by
 have h1 : ∀ n, k + n ≤ nts.length → (txN iv pts nts k).length ≤ (txN iv pts nts (k + n)).length := fun n => by
  induction n with
  | zero => intro _; exact Nat.le_refl _
  | succ n ih => intro hn; rw [show k + (n + 1) = (k + n) + 1 by omega, txN_s (by omega), List.length_append]; have := ih (by omega); omega
 have := h1 (nts.length - k) (by omega)
 rw [show k + (nts.length - k) = nts.length by omega] at this
 exact this
theorem txP_b (hb : (txS iv pts nts).length ≤ 1000000) (h : k < pts.length) : (txP iv pts k).length + (lnL [[112, 111, 105, 110, 116], nm (pts.getD k default)]).length ≤ 1000000 := by
 have h1 := txP_le (iv := iv) (pts := pts) (k := k + 1) h
 have h2 := txN_le (iv := iv) (pts := pts) (nts := nts) (k := 0) (Nat.zero_le _)
 rw [txN_0] at h2
 rw [txP_s h, List.length_append] at h1
 omega
theorem txH_b (hb : (txS iv pts nts).length ≤ 1000000) : (lnL [[115, 104, 101, 101, 116], Lib.itoa iv]).length ≤ 1000000 := by
 have h1 := txP_le (iv := iv) (pts := pts) (k := 0) (Nat.zero_le _)
 have h2 := txN_le (iv := iv) (pts := pts) (nts := nts) (k := 0) (Nat.zero_le _)
 rw [txN_0] at h2
 rw [txP_0] at h1
 omega
theorem txN_b (hb : (txS iv pts nts).length ≤ 1000000) (h : k < nts.length) : (txN iv pts nts k).length + (lnL (ntW pts (nts.getD k default))).length ≤ 1000000 := by
 have h1 := txN_le (iv := iv) (pts := pts) (nts := nts) (k := k + 1) h
 rw [txN_s h, List.length_append] at h1
 omega
end
end Go.Proofs.YtnhhfkgldoeifaaGreatDoor.Sh
end
section
namespace Go.Proofs.YtnhhfkgldoeifaaGreatDoor.Pn
open Go
def hgM (m : Mod) (hs : List Int) : Mod := { m with hs := hs }
section
variable {m : Mod} {hs h1 h2 : List Int} {l : List Int} {x y eye : Int} {i s : Nat}
theorem hg_chk (hc : (chk m).2.2 = 0) (hl : hs.length = m.hs.length) (hb : ∀ h ∈ hs, 0 ≤ h ∧ h ≤ 500) : (chk (hgM m hs)).2.2 = 0 := by
 obtain ⟨c1, c2, c3, c4, c5, c6, c7⟩ := chk_part.1 hc
 refine chk_part.2 ⟨c1, ?_, ?_, c4, c5, c6, c7⟩
 ·show (hs.length : Int) = _
  rw [hl]; exact c2
 ·refine fst_zero.2 fun h hh => ?_
  have := hb h hh
  unfold hgE; rw [if_pos this]
theorem hg_steps : stepsS (hgM m hs) x y i = stepsS m x y i := rfl
theorem step_own (h : Way m x y i) {u : Int × Int × Int} (hu : u ∈ stepsS m x y i) : u.1.toNat ≠ (fldS m i).toNat := by
 obtain ⟨k, hk⟩ := List.getElem?_of_mem hu
 obtain ⟨j, hj, hF, rfl⟩ := steps_at hk
 have hp := (h.g.p i h.i).1
 have hw := h.g.w
 intro e
 have e1 : atY m x y i j * m.W + atX m x y i j = (m.ps.getD i default).y * m.W + (m.ps.getD i default).x := by
  have h1 := fld_bd h.g.w h.g.d hF
  have h2 := fld_bd h.g.w h.g.d hp
  unfold fldS at e
  dsimp only at e
  omega
 obtain ⟨hx, hy⟩ : atX m x y i j = (m.ps.getD i default).x ∧ atY m x y i j = (m.ps.getD i default).y := by
  have f1 := hF.1
  have f2 := hp.1
  generalize atX m x y i j = a at *
  generalize atY m x y i j = b at *
  generalize (m.ps.getD i default).x = c at *
  generalize (m.ps.getD i default).y = d at *
  have e2 : (b - d) * m.W = c - a := by rw [Int.sub_mul]; omega
  have e3 : b - d = 0 := by
   rcases Int.lt_trichotomy (b - d) 0 with h | h | h
   ·have := Int.mul_le_mul_of_nonneg_right (show b - d ≤ -1 by omega) (show 0 ≤ m.W by omega)
    omega
   ·exact h
   ·have := Int.mul_le_mul_of_nonneg_right (show 1 ≤ b - d by omega) (show 0 ≤ m.W by omega)
    omega
  rw [e3] at e2
  omega
 have gx := gS_x (m := m) (x := x) (y := y) (i := i)
 have gy := gS_y (m := m) (x := x) (y := y) (i := i)
 have zero : ∀ {a g : Int}, g ∣ a → (j : Int) + 1 < g → a / g * ((j : Int) + 1) = a → a = 0 := fun {a g} hd hg he => by
  obtain ⟨q, rfl⟩ := hd
  rw [Int.mul_ediv_cancel_left _ (by omega)] at he
  have e4 : q * (g - ((j : Int) + 1)) = 0 := by rw [Int.mul_sub, Int.mul_comm q g]; omega
  rcases Int.mul_eq_zero.1 e4 with h | h
  ·rw [h, Int.mul_zero]
  ·omega
 have z1 := zero gx hj (by unfold atX at hx; omega)
 have z2 := zero gy hj (by unfold atY at hy; omega)
 have hz : gS m x y i = 0 := by unfold gS gcdS; rw [z1, z2]; rfl
 omega
theorem hg_sees (h : Way m x y i) (ho : h2.getD (fldS m i).toNat default ≥ h1.getD (fldS m i).toNat default) (ha : ∀ f, f ≠ (fldS m i).toNat → h2.getD f default ≤ h1.getD f default)
  (hs : seesB (hgM m h1) l x y eye i = true) : seesB (hgM m h2) l x y eye i = true := by
 unfold seesB hidesS at hs ⊢
 rw [List.isEmpty_iff, List.map_eq_nil_iff, List.filter_eq_nil_iff] at hs ⊢
 intro u hu hh
 rw [hg_steps] at hu hs
 refine hs u hu ?_
 have hne := step_own h hu
 obtain ⟨k, hk⟩ := List.getElem?_of_mem hu
 have hst := h.step hk
 have h3 := ha _ hne
 unfold hideB at hh ⊢
 simp only [decide_eq_true_eq] at hh ⊢
 have e1 : topS (hgM m h2) l u.1 ≤ topS (hgM m h1) l u.1 := by
  show h2.getD u.1.toNat default + _ ≤ h1.getD u.1.toNat default + _
  exact Int.add_le_add_right h3 _
 have e2 : headS (hgM m h1) l i ≤ headS (hgM m h2) l i := by
  show h1.getD (fldS m i).toNat default + _ ≤ h2.getD (fldS m i).toNat default + _
  exact Int.add_le_add_right ho _
 have e3 := Int.mul_le_mul_of_nonneg_right e1 (show 0 ≤ u.2.2 by omega)
 have e4 := Int.mul_le_mul_of_nonneg_right e2 (show 0 ≤ u.2.1 by omega)
 omega
theorem hg_seen (hc : (chk m).2.2 = 0) (hs : s < m.ss.length) (hi : i < m.ps.length) (l1 : h1.length = m.hs.length) (l2 : h2.length = m.hs.length) (b1 : ∀ h ∈ h1, 0 ≤ h ∧ h ≤ 500) (b2 : ∀ h ∈ h2, 0 ≤ h ∧ h ≤ 500)
  (ho : h2.getD (fldS m i).toNat default ≥ h1.getD (fldS m i).toNat default) (ha : ∀ f, f ≠ (fldS m i).toNat → h2.getD f default ≤ h1.getD f default) :
  ((i : Int) ∈ sureL (hgM m h1) (s : Int) → (i : Int) ∈ sureL (hgM m h2) (s : Int)) ∧ ((i : Int) ∈ mayL (hgM m h1) (s : Int) → (i : Int) ∈ mayL (hgM m h2) (s : Int)) := by
 have g := chk_good hc
 have c1 := hg_chk hc l1 b1
 have c2 := hg_chk hc l2 b2
 have hst := g.s _ (K.gt_mem hs)
 have hW : Way m (m.ss.getD s default).x (m.ss.getD s default).y i := ⟨g, hi, hst.1.1, hst.1.2⟩
 have go : ∀ eye, (i : Int) ∈ seenL (hgM m h1) (ownS m) s eye → (i : Int) ∈ seenL (hgM m h2) (ownS m) s eye := fun eye h => by
  have e1 := seen_mem (m := hgM m h1) (l := ownS m) (s := s) (eye := eye) hi
  have e2 := seen_mem (m := hgM m h2) (l := ownS m) (s := s) (eye := eye) hi
  rw [decide_eq_true h] at e1
  exact of_decide_eq_true (e2.trans (hg_sees hW ho ha e1.symm))
 refine ⟨fun h => ?_, fun h => ?_⟩
 ·rw [sure_0 (seen_0 c1 hs)] at h
  rw [sure_0 (seen_0 c2 hs)]
  exact go _ h
 ·rw [may_0 (seen_0 c1 hs)] at h
  rw [may_0 (seen_0 c2 hs)]
  exact go _ h
end
end Go.Proofs.YtnhhfkgldoeifaaGreatDoor.Pn
end
section
namespace Go.Proofs.YtnhhfkgldoeifaaGreatDoor.Sh
open Go.RowKit Go
open Go.K (setd setn ev nth over cl eI eP eT setM setF)
attribute [local irreducible] K.blk K.row
theorem trn_0 {l : List Int} {k : Nat} (h : l.length = 0) : trn l k = 0 := by unfold trn; rw [if_pos h]
theorem trn_y {l : List Int} {k : Nat} (h : ¬ l.length = 0) : trn l k = l.getD (k % l.length) default := by unfold trn; rw [if_neg h]

set_option maxRecDepth 100000 in
set_option maxHeartbeats 1000000 in
theorem c4 {iv : Int} {pts : List ByteArray} {nts : List NtT} {A B : Option Addr} {c d : Nat} {w : World} (hP : K.Rd w A 1 eG pts) (hN : K.Rd w B 5 eO nts) (hn : pts.length ≤ 4611686018427387904) (hm : nts.length ≤ 4611686018427387904) (hcp : pts.length ≤ c) :
  Calls Tryz.prog 4 [.agg #[.int .i64 iv, .slice A pts.length c, .slice B nts.length d]].toArray w (K.Gives (K.tup3 (chkS iv pts nts)) w) := by
 refine K.enter (args := [.agg #[.int .i64 iv, .slice A pts.length c, .slice B nts.length d]]) Tryz.func4 rfl (n := 60) rfl ?_
 refine zR ?_
 refine sr ?_
 refine qn (K.box) fun b1 => ?_
 iterate 3 refine qa ?_
 refine sn (K.seq (sr (qp (K.aA fo_25_0 rfl) ?_)))
 refine ql (K.fA one_3 rfl (K.m0) rfl) ?_
 refine qc (K.nA cal_14 (fun F w hF hw => Pn.c106 w)) ?_
 first | refine K.mA (K.fC rfl) rfl ?_ | refine K.mA (K.not_ rfl) rfl ?_
 refine zN ?_
 refine sn ?_
 refine K.cond rfl (fun ht12 => ?_) (fun ht12 => ?_)
 ·try replace ht12 := Kq.oT ht12
  refine sr ?_
  iterate 3 refine qa ?_
  refine sn (K.ret (K.iA ?_))
  refine K.wA (fun w _ => K.wB rfl w) ?_
  exact K.gives (by rw [cs_1 (by omega)]; rfl)
 try replace ht12 := Kq.oF ht12
 refine K.skip (K.dA (K.seq (sr (qp (K.aA fo_25_1 rfl) ?_))))
 refine ql (K.fA one_22 rfl (K.m0) rfl) ?_
 refine qp (K.aB sl_22 rfl) ?_
 refine qc (K.nA cal_14 (fun F w hF hw => Pn.c106 w)) ?_
 first | refine K.mA (K.fC rfl) rfl ?_ | refine K.mA (K.not_ rfl) rfl ?_
 refine zN ?_
 refine sn ?_
 refine K.cond rfl (fun ht17 => ?_) (fun ht17 => ?_)
 ·try replace ht17 := Kq.oT ht17
  refine sr ?_
  iterate 3 refine qa ?_
  refine sn (K.ret (K.iA ?_))
  refine K.wA (fun w _ => K.wB rfl w) ?_
  exact K.gives (by rw [cs_2 (by omega) (by omega)]; rfl)
 try replace ht17 := Kq.oF ht17
 refine K.skip (K.dA (K.seq (K.seq ?_)))
 refine K.weak Kq.s0 ?_
 refine K.gA (qa ?_)
 refine sn (K.block ?_)
 refine K.loopW [5] [2, 3, 4, 6, 18, 19, 20, 21, 22, 23, 24, 25, 26, 27, 28, 29, 30, 31, 32, 33, 34, 35, 36, 37, 38] (fun vi L => ∃ k : Nat, vi = [.int .i64 (k : Int)] ∧ L = [K.blk b1 25 [.int .i64 iv, .slice A pts.length c, .slice B nts.length d]] ∧ k ≤ pts.length ∧ ∀ j, j < k → fshE pts j = 0) (fun vi => pts.length - (intOf (K.nth vi 0)).toNat) ?_ ?_
 ·exact ⟨0, rfl, rfl, Nat.zero_le _, fun j hj => absurd hj (Nat.not_lt_zero j)⟩
 intro vi vr L hJ
 obtain ⟨k, rfl, rfl, hkn, hall⟩ := hJ
 refine zY ?_
 refine K.seq (sr (qm ?_))
 refine qp (K.aA fo_25_1 rfl) ?_
 refine ql (K.fA one_22 rfl (K.m0) rfl) ?_
 refine qp (K.aB sl_22 rfl) ?_
 refine qp (K.lss rfl rfl) ?_
 refine sn ?_
 refine K.cond rfl (fun ht22 => ?_) (fun ht22 => ?_)
 ·try replace ht22 := Kq.oT ht22
  have hk : k < pts.length := by omega
  refine K.skip (K.dA (K.seq (K.block (K.seq ?_))))
  refine K.nB [] uA ?_
  refine dp 0 rfl (K.aA fo_25_1 rfl) ?_
  refine dm 1 rfl (K.fA one_22 rfl (K.m0) rfl) ?_
  refine dp 2 rfl (K.move) ?_
  refine K.d_ix (M := []) 3 _ rfl hP.sl sl_22 rfl rfl rfl (by omega) (by kernel_rfl) rfl ?_
  intro p28 hp28
  refine zN ?_
  refine dm 4 rfl (K.load1 one_9 rfl (hp28.any)) ?_
  refine dp 5 rfl (K.aA fo_25_1 rfl) ?_
  refine dm 6 rfl (K.fA one_22 rfl (K.m0) rfl) ?_
  refine dp 7 rfl (K.move) ?_
  refine dp 8 rfl (K.slice_hi k sl_22 rfl rfl rfl (by omega)) ?_
  refine K.kB 9 rfl (K.nA cal_15 (fun F w hF hw => c58n (c := c) ((hP.pass hw).take k) (by rw [List.length_take]; omega) (by omega))) (fun _ h => h) (by kernel_rfl) rfl ?_
  refine zN ?_
  refine dp 10 rfl (K.assign) ?_
  refine dd (K.dA (sr (qm ?_)))
  refine qp (K.neq rfl rfl) ?_
  refine sn ?_
  refine K.cond rfl (fun ht36 => ?_) (fun ht36 => ?_)
  ·try replace ht36 := Kq.oT ht36
   refine sr ?_
   iterate 2 refine qm ?_
   iterate 3 refine qa ?_
   refine sn (K.ret (K.qA (K.iA (K.iA (K.qA (K.iA ?_))))))
   refine K.wA (fun w _ => K.wB rfl w) ?_
   exact K.gives (by rw [cs_3 (by omega) (by omega) hk hall ht36]; rfl)
  try replace ht36 := Kq.oF ht36
  refine K.skip (K.kA (K.dA (K.gA (qm ?_))))
  refine qp (K.tA rfl rfl (by omega)) ?_
  refine qa ?_
  refine K.lA ?_
  have hz : fshE pts k = 0 := Decidable.not_not.1 ht36
  exact K.rA (L'' := [K.blk b1 25 [.int .i64 iv, .slice A pts.length c, .slice B nts.length d]]) [.int .i64 ((k : Int) + 1)] ⟨k + 1, rfl, rfl, by omega, K.fB hall hz⟩ (by simp [K.nth, intOf]; omega) Kq.s0 (by kernel_rfl)
 try replace ht22 := Kq.oF ht22
 refine K.exit (K.pA (K.pA (K.zA (K.dA (K.seq (sr (qp (K.aA fo_25_2 rfl) ?_)))))))
 refine ql (K.fA one_23 rfl (K.m0) rfl) ?_
 refine qp (K.aB sl_23 rfl) ?_
 refine qp (K.gtr rfl rfl) ?_
 refine sn ?_
 refine K.cond rfl (fun ht42 => ?_) (fun ht42 => ?_)
 ·try replace ht42 := Kq.oT ht42
  refine sr ?_
  iterate 3 refine qa ?_
  refine sn (K.ret (K.iA ?_))
  refine K.wA (fun w _ => K.wB rfl w) ?_
  exact K.gives (by rw [cs_4 (by omega) (by omega) (fun j hj => hall j (by omega)) (by omega)]; rfl)
 try replace ht42 := Kq.oF ht42
 refine K.skip (K.dA (K.seq (K.seq ?_)))
 refine K.weak Kq.s0 ?_
 refine K.gA (qa ?_)
 refine sn (K.block ?_)
 refine K.loopW [7] [2, 3, 4, 8, 43, 44, 45, 46, 47, 48, 49, 50, 51, 52, 53, 54, 55, 56, 57, 58, 59, 60] (fun vi L => ∃ k : Nat, vi = [.int .i64 (k : Int)] ∧ L = [K.blk b1 25 [.int .i64 iv, .slice A pts.length c, .slice B nts.length d]] ∧ k ≤ nts.length ∧ ∀ j, j < k → ntE iv pts.length (nts.getD j default) = 0) (fun vi => nts.length - (intOf (K.nth vi 0)).toNat) ?_ ?_
 ·exact ⟨0, rfl, rfl, Nat.zero_le _, fun j hj => absurd hj (Nat.not_lt_zero j)⟩
 intro vi vr L hJ
 have hall0 : ∀ j, j < pts.length → fshE pts j = 0 := fun j hj => hall j (by omega)
 clear hall hkn
 obtain ⟨k, rfl, rfl, hkn2, hall2⟩ := hJ
 refine zY ?_
 refine K.seq (sr (qm ?_))
 refine qp (K.aA fo_25_2 rfl) ?_
 refine ql (K.fA one_23 rfl (K.m0) rfl) ?_
 refine qp (K.aB sl_23 rfl) ?_
 refine qp (K.lss rfl rfl) ?_
 refine sn ?_
 refine K.cond rfl (fun ht47 => ?_) (fun ht47 => ?_)
 ·try replace ht47 := Kq.oT ht47
  have hk : k < nts.length := by omega
  refine K.skip (K.dA (K.seq (K.block (K.seq ?_))))
  refine K.nB [] uA ?_
  refine dm 0 rfl (K.jA ag_25 rfl (K.m0) rfl) ?_
  refine dp 1 rfl (K.aA fo_25_2 rfl) ?_
  refine dm 2 rfl (K.fA one_23 rfl (K.m0) rfl) ?_
  refine dp 3 rfl (K.move) ?_
  refine K.d_ix (M := []) 4 _ rfl hN.sl sl_23 rfl rfl rfl (by omega) (by kernel_rfl) rfl ?_
  intro p54 hp54
  refine zN ?_
  refine dm 5 rfl (K.uB ag_58 rfl (hp54.any) rfl) ?_
  refine K.kB 6 rfl (K.nA cal_16 (fun F w hF hw => c16 (c := c) (d := d) (by omega) hn)) (fun _ h => h) (by kernel_rfl) rfl ?_
  refine zN ?_
  refine dp 7 rfl (K.assign) ?_
  refine dd (K.dA (sr (qm ?_)))
  refine qp (K.neq rfl rfl) ?_
  refine sn ?_
  refine K.cond rfl (fun ht58 => ?_) (fun ht58 => ?_)
  ·try replace ht58 := Kq.oT ht58
   refine sr ?_
   iterate 2 refine qm ?_
   iterate 3 refine qa ?_
   refine sn (K.ret (K.qA (K.iA (K.iA (K.qA (K.iA ?_))))))
   refine K.wA (fun w _ => K.wB rfl w) ?_
   exact K.gives (by rw [cs_5 (by omega) (by omega) hall0 (by omega) (by omega) hall2 ht58]; rfl)
  try replace ht58 := Kq.oF ht58
  refine K.skip (K.kA (K.dA (K.gA (qm ?_))))
  refine qp (K.tA rfl rfl (by omega)) ?_
  refine qa ?_
  refine K.lA ?_
  have hz : ntE iv pts.length (nts.getD k default) = 0 := Decidable.not_not.1 ht58
  exact K.rA (L'' := [K.blk b1 25 [.int .i64 iv, .slice A pts.length c, .slice B nts.length d]]) [.int .i64 ((k : Int) + 1)] ⟨k + 1, rfl, rfl, by omega, K.fB hall2 hz⟩ (by simp [K.nth, intOf]; omega) Kq.s0 (by kernel_rfl)
 try replace ht47 := Kq.oF ht47
 refine K.exit (K.pA (K.pA (K.zA (K.dA (sr ?_)))))
 iterate 3 refine qa ?_
 refine sn (K.ret ?_)
 refine K.wA (fun w _ => K.wB rfl w) ?_
 exact K.gives (by rw [cs_0 (by omega) (by omega) hall0 (by omega) (fun j hj => hall2 j (by omega))]; rfl)

set_option maxRecDepth 100000 in
theorem c47 {iv : Int} {pts : List ByteArray} {nts : List NtT} {A B : Option Addr} {c d : Nat} {w : World} (hP : K.Rd w A 1 eG pts) (hN : K.Rd w B 5 eO nts) (hn : pts.length ≤ 4611686018427387904) (hm : nts.length ≤ 4611686018427387904) (hcp : pts.length ≤ c) :
  Calls Tryz.prog 47 [.agg #[.int .i64 iv, .slice A pts.length c, .slice B nts.length d]].toArray w (K.Gives (.bool (decide ((chkS iv pts nts).2.2 = 0))) w) := by
 refine K.enter (args := [.agg #[.int .i64 iv, .slice A pts.length c, .slice B nts.length d]]) Tryz.func47 rfl (n := 13) rfl ?_
 refine zR ?_
 refine sr ?_
 refine qn (K.box) fun b1 => ?_
 refine qa ?_
 refine sn (sr (ql (K.jA ag_25 rfl (K.m0) rfl) ?_))
 refine qc (K.nA cal_4 (fun F w hF hw => c4 (hP.pass hw) (hN.pass hw) hn hm hcp)) ?_
 refine qm ?_
 iterate 3 refine qx ?_
 iterate 3 refine qa ?_
 refine sn (sr (qm ?_))
 refine qp (K.eql rfl rfl) ?_
 refine qa ?_
 refine sn (K.ret (et ?_))
 exact K.gives rfl

set_option maxRecDepth 100000 in
theorem c45 {X : Option Addr} {cx n : Nat} {xs : List Int} {w : World} (hX : K.Rd w X 1 eH xs) (hxb : ∀ x ∈ xs, 0 ≤ x ∧ x ≤ 65535) (hxl : xs.length ≤ 70368744175616) (hn : n ≤ 1000) :
  Calls Tryz.prog 45 [.slice X xs.length cx, .int .i64 (n : Int)].toArray w (K.Gives (.int .i64 (trn xs n)) w) := by
 refine K.enter (args := [.slice X xs.length cx, .int .i64 (n : Int)]) Tryz.func45 rfl (n := 14) rfl ?_
 refine zR ?_
 refine sr (qa ?_)
 refine sn (K.seq (sr (qm ?_)))
 refine qp (K.aB sl_31 rfl) ?_
 refine qp (K.eql rfl rfl) ?_
 refine sn ?_
 refine K.cond rfl (fun ht7 => ?_) (fun ht7 => ?_)
 ·try replace ht7 := Kq.oT ht7
  refine sr (qa ?_)
  refine sn (K.ret (K.iA (et ?_)))
  exact K.xA rfl (trn_0 (by omega)).symm
 try replace ht7 := Kq.oF ht7
 have hpos : 0 < xs.length := by omega
 have hlt := Nat.mod_lt n hpos
 have hx := hxb _ (K.gt_mem hlt)
 refine K.skip (K.dA (sr ?_))
 iterate 3 refine qm ?_
 refine qp (K.aB sl_31 rfl) ?_
 refine qp (K.Pure.eq (K.rem_i64 rfl rfl (by omega) (by omega)) (show _ = Value.int .i64 ((n % xs.length : Nat) : Int) from by rw [Int.natCast_emod])) ?_
 refine K.vB (M := []) (n % xs.length) hX.sl sl_31 rfl rfl rfl (by omega) rfl ?_
 intro p13 hp13
 refine zN ?_
 refine ql (K.load1 one_152 rfl (hp13.any)) ?_
 refine K.mA (K.Pure.eq (K.conv_int ik_152 ik_3 rfl) (show _ = Value.int .i64 (xs.getD (n % xs.length) default) from by rw [IntWalk.i64_in _ (by omega)])) rfl ?_
 refine zN ?_
 refine qa ?_
 refine sn (K.ret (et ?_))
 exact K.xA rfl (trn_y (by omega)).symm

set_option maxRecDepth 100000 in
theorem c8 {iv : Int} {pts : List ByteArray} {nts : List NtT} {A B : Option Addr} {c d : Nat} {X : Option Addr} {cx : Nat} {xs : List Int} {w : World} (hP8 : pts.length ≤ 8) (hX : K.Rd w X 1 eH xs) (hxb : ∀ x ∈ xs, 0 ≤ x ∧ x ≤ 65535) (hxl : xs.length ≤ 70368744175616) :
  Calls Tryz.prog 8 [.agg #[.int .i64 iv, .slice A pts.length c, .slice B nts.length d], .slice X xs.length cx].toArray w (K.RetS 3 1 K.eI (truN xs pts.length) w) := by
 refine K.enter (args := [.agg #[.int .i64 iv, .slice A pts.length c, .slice B nts.length d], .slice X xs.length cx]) Tryz.func8 rfl (n := 20) rfl ?_
 refine zR ?_
 refine sr ?_
 refine qn (K.box) fun b2 => ?_
 refine qa ?_
 refine sn (sr (qa ?_))
 refine sn (K.seq (sr ?_))
 refine K.jC (e := 3) (size := 1) ?_
 refine qa ?_
 refine sn (K.block ?_)
 refine K.loopW [5, 6] [7, 8, 9, 10, 11, 12, 13, 14, 15, 16, 17, 18, 19, 20] (fun vi L => ∃ (k : Nat) (Q : Option Addr) (q : Nat), vi = [.slice Q (truN xs k).length q, .int .i64 (k : Int)] ∧ L = [K.row (.slice Q (truN xs k).length q) 3 1 (truN xs k).length ((truN xs k).flatMap K.eI), K.blk b2 25 [.int .i64 iv, .slice A pts.length c, .slice B nts.length d]] ∧ k ≤ pts.length) (fun vi => pts.length - (intOf (K.nth vi 1)).toNat) ?_ ?_
 ·exact ⟨0, none, 0, rfl, rfl, Nat.zero_le _⟩
 intro vi vr L hJ
 obtain ⟨k, Q, q, rfl, rfl, hkn⟩ := hJ
 refine zY ?_
 refine K.seq (sr (qm ?_))
 refine qp (K.aA fo_25_1 rfl) ?_
 refine ql (K.fA one_22 rfl (K.m1) rfl) ?_
 refine qp (K.aB sl_22 rfl) ?_
 refine qp (K.lss rfl rfl) ?_
 refine sn ?_
 refine K.cond rfl (fun ht11 => ?_) (fun ht11 => ?_)
 ·try replace ht11 := Kq.oT ht11
  have hk : k < pts.length := by omega
  have htb := trn_bd hxb k
  refine K.skip (K.dA (K.seq (K.block (K.gA ?_))))
  iterate 3 refine qm ?_
  refine qc (K.nA cal_45 (fun F w hF hw => c45 (hX.pass hw) hxb hxl (by omega))) ?_
  refine qp (K.rem_i64 rfl rfl (by omega) (by omega)) ?_
  refine qn (K.buildSlice (bsI _)) fun b19 => ?_
  refine K.xB (K.append el_26 rfl rfl (K.PtrL.own' (K.m0)) rfl rfl (by decide) (by rw [tru_len]; omega) (by rw [tru_len]; omega) (fun _ _ => K.rp1)) rfl ?_
  rintro ⟨g20, c20⟩ _
  refine zN ?_
  refine qa ?_
  refine K.lA (K.kA (K.dA (K.gA (qm ?_))))
  refine qp (K.tA rfl rfl (by omega)) ?_
  refine qa ?_
  refine K.lA ?_
  exact K.rA (L'' := [K.row (.slice (some ⟨g20, 0, none⟩) ((truN xs k).length + 1) c20) 3 1 ((truN xs k).length + 1) ((truN xs k).flatMap K.eI ++ [.int .i64 (trn xs k % 9001)]), K.blk b2 25 [.int .i64 iv, .slice A pts.length c, .slice B nts.length d]]) [.slice (some ⟨g20, 0, none⟩) ((truN xs k).length + 1) c20, .int .i64 ((k : Int) + 1)] ⟨k + 1, some ⟨g20, 0, none⟩, c20, by rw [tru_s, List.length_append]; rfl, by rw [tru_s, List.length_append, List.flatMap_append]; rfl, by omega⟩ (by simp [K.nth, intOf]; omega) (Kq.s1 Kq.s0) (by kernel_rfl)
 try replace ht11 := Kq.oF ht11
 refine K.exit (K.pA (K.pA (K.zA (K.dA (sr (qm ?_))))))
 refine qa ?_
 refine sn (K.ret (et ?_))
 have e0 : k = pts.length := by omega
 subst e0
 exact K.rets_s K.m0 rfl rfl rfl

set_option maxRecDepth 100000 in
theorem c33 {a b : Int} (w : World) :
  Calls Tryz.prog 33 [.int .i64 a, .int .i64 b].toArray w (K.Gives (.agg #[.int .i64 a, .int .i64 b]) w) := by
 refine K.enter (args := [.int .i64 a, .int .i64 b]) Tryz.func33 rfl (n := 6) rfl ?_
 refine zR ?_
 refine sr ?_
 refine qn (K.alloc zr_46) fun b4 => ?_
 refine sn (sr ?_)
 iterate 2 refine qm ?_
 refine K.mA (K.build (bl46 _ _)) rfl ?_
 refine zN ?_
 refine qt (K.vA sz_46 rfl rfl rfl rfl (K.rp0)) ?_
 refine sn (K.ret ?_)
 refine K.wA (fun w hw => K.res_c rfl rfl (K.run_cellA kC rfl (K.m0) rfl w hw)) ?_
 exact K.gives rfl

set_option maxRecDepth 100000 in
theorem c57 {k a b l h : Int} (w : World) :
  Calls Tryz.prog 57 [.int .i64 k, .int .i64 a, .int .i64 b, .int .i64 l, .int .i64 h].toArray w (K.Gives (.agg #[.int .i64 k, .int .i64 a, .int .i64 b, .int .i64 l, .int .i64 h]) w) := by
 refine K.enter (args := [.int .i64 k, .int .i64 a, .int .i64 b, .int .i64 l, .int .i64 h]) Tryz.func57 rfl (n := 13) rfl ?_
 refine zR ?_
 refine sr ?_
 refine qn (K.alloc zr_58) fun b10 => ?_
 refine sn (sr ?_)
 iterate 5 refine qm ?_
 refine qc (K.nA cal_33 (fun F w hF hw => c33 w)) ?_
 refine K.mA (K.build (bl58 _ _ _ _ _)) rfl ?_
 refine zN ?_
 refine qt (K.vA sz_58 rfl rfl rfl rfl (K.rp0)) ?_
 refine sn (K.ret ?_)
 refine K.wA (fun w hw => K.res_c rfl rfl (K.run_cellA ag_58 rfl (K.m0) rfl w hw)) ?_
 exact K.gives rfl

end Go.Proofs.YtnhhfkgldoeifaaGreatDoor.Sh
end
section
namespace Go.Proofs.YtnhhfkgldoeifaaGreatDoor.Sh
open Go.RowKit Go
open Go.K (setd setn ev nth over cl eI eP eT setM setF)
attribute [local irreducible] K.blk K.row
section
variable {iv : Int} {h off : List Int} {n i : Nat} {x : NtT}
theorem tb_1 (h1 : ¬ ((0 ≤ x.a ∧ x.a < (h.length : Int)) ∧ (0 ≤ x.b ∧ x.b < (h.length : Int)))) : tldB iv h off n i x = false := by
 unfold tldB; rw [decide_eq_false h1]; rfl
theorem tb_2 (h1 : x.kd = 3) (h2 : hA h x.a ≠ hA h x.b) : tldB iv h off n i x = false := by
 unfold tldB; rw [decide_eq_false (p := x.kd = 3 → _) (fun h3 => h2 (h3 h1)), Bool.and_false]; rfl
theorem tb_3 (h1 : ntE iv n (newX iv h off i x) ≠ 0) : tldB iv h off n i x = false := by
 unfold tldB; rw [decide_eq_false h1, Bool.and_false]
theorem tb_t (h1 : (0 ≤ x.a ∧ x.a < (h.length : Int)) ∧ (0 ≤ x.b ∧ x.b < (h.length : Int))) (h2 : x.kd = 3 → hA h x.a = hA h x.b) (h3 : ntE iv n (newX iv h off i x) = 0) : tldB iv h off n i x = true := by
 unfold tldB; rw [decide_eq_true h1, decide_eq_true h2, decide_eq_true h3]; rfl
theorem nx_1 (h1 : x.kd = 1) : eO (newX iv h off i x) = [.int .i64 x.kd, .int .i64 x.a, .int .i64 x.b, .int .i64 (max 0 (hA h x.a - less off i)), .int .i64 (min 9000 (hA h x.a + more off i))] := by unfold newX; rw [if_pos h1]; rfl
theorem nx_2 (h1 : x.kd = 2) : eO (newX iv h off i x) = [.int .i64 x.kd, .int .i64 x.a, .int .i64 x.b, .int .i64 (hA h x.a / iv), .int .i64 (hA h x.a / iv + 1)] := by unfold newX; rw [if_neg (by omega), if_pos h1]; rfl
theorem nx_4 (h1 : x.kd = 4) : eO (newX iv h off i x) = [.int .i64 x.kd, .int .i64 x.a, .int .i64 x.b, .int .i64 (max (-9000) (hA h x.a - hA h x.b - less off i)), .int .i64 (min 9000 (hA h x.a - hA h x.b + more off i))] := by unfold newX; rw [if_neg (by omega), if_neg (by omega), if_pos h1]; rfl
theorem nx_0 (h1 : x.kd ≠ 1) (h2 : x.kd ≠ 2) (h4 : x.kd ≠ 4) : eO (newX iv h off i x) = [.int .i64 x.kd, .int .i64 x.a, .int .i64 x.b, .int .i64 x.lo, .int .i64 x.hi] := by unfold newX; rw [if_neg h1, if_neg h2, if_neg h4]; rfl
end
def grd1 (l : List (Int × Int)) (own : Int) (hb : Bool) (i : Nat) : Int := if (decide ((i : Int) = own) == hb) then (l.getD (i % l.length) default).2 / 20 else (l.getD (i % l.length) default).1 / 20
def grdS (l : List (Int × Int)) (own : Int) (hb : Bool) (n : Nat) : List Int := (List.range n).map (grd1 l own hb)
theorem grd_s {l : List (Int × Int)} {own : Int} {hb : Bool} {n : Nat} : grdS l own hb (n + 1) = grdS l own hb n ++ [grd1 l own hb n] := by unfold grdS; rw [List.range_succ, List.map_append]; rfl
theorem grd_len {l : List (Int × Int)} {own : Int} {hb : Bool} {n : Nat} : (grdS l own hb n).length = n := by unfold grdS; simp
theorem grd_y {l : List (Int × Int)} {own : Int} {hb : Bool} {n : Nat} (h : (decide ((n : Int) = own) == hb) = true) : grd1 l own hb n = (l.getD (n % l.length) default).2 / 20 := by unfold grd1; rw [if_pos h]
theorem grd_n {l : List (Int × Int)} {own : Int} {hb : Bool} {n : Nat} (h : (decide ((n : Int) = own) == hb) = false) : grd1 l own hb n = (l.getD (n % l.length) default).1 / 20 := by unfold grd1; rw [if_neg (by rw [h]; decide)]

set_option maxRecDepth 100000 in
set_option maxHeartbeats 8000000 in
theorem c10 {iv : Int} {pts : List ByteArray} {nts : List NtT} {A B : Option Addr} {c d : Nat} {h off : List Int} {H X : Option Addr} {ch cx : Nat} {w : World} (hP : K.Rd w A 1 eG pts) (hN : K.Rd w B 5 eO nts) (g : GoodS iv pts nts) (hcp : pts.length ≤ c) (hH : K.Rd w H 1 K.eI h) (hhl : h.length = pts.length) (hhb : ∀ x ∈ h, 0 ≤ x ∧ x ≤ 9000) (hX : K.Rd w X 1 eH off) (hxb : ∀ x ∈ off, 0 ≤ x ∧ x ≤ 65535) (hxl : off.length ≤ 70368744175616) :
  Calls Tryz.prog 10 [.agg #[.int .i64 iv, .slice A pts.length c, .slice B nts.length d], .slice H h.length ch, .slice X off.length cx].toArray w (K.Ret (fun _ : Option Addr × Nat => True) (fun r => .agg #[.int .i64 iv, .slice A pts.length c, .slice r.1 (tldK iv nts h off pts.length nts.length).length r.2]) (fun r => [K.row (.slice r.1 (tldK iv nts h off pts.length nts.length).length r.2) 58 5 (tldK iv nts h off pts.length nts.length).length ((tldK iv nts h off pts.length nts.length).flatMap eO)]) w) := by
 have hgi := g.i
 have hgn := g.n
 have hgl := g.l
 refine K.enter (args := [.agg #[.int .i64 iv, .slice A pts.length c, .slice B nts.length d], .slice H h.length ch, .slice X off.length cx]) Tryz.func10 rfl (n := 150) rfl ?_
 refine zR ?_
 refine sr ?_
 refine qn (K.box) fun b3 => ?_
 refine qn (K.alloc zr_25) fun b6 => ?_
 refine sn (sr (ql (K.jA ag_25 rfl (K.m1) rfl) ?_))
 refine qn (K.alloc zr_25) fun b7 => ?_
 refine qt (K.vA sz_25 rfl rfl rfl rfl (K.rp0)) ?_
 refine sn (sr (qp (K.aA fo_25_2 rfl) ?_))
 refine qt (K.store sz_23 rfl rfl rfl rfl (K.rp0)) ?_
 refine sn (K.seq (sr ?_))
 refine K.jC (e := 58) (size := 5) ?_
 refine qa ?_
 refine sn (K.block ?_)
 refine K.loopW [8] [9, 10, 11, 12, 13, 16, 17, 18, 19, 20, 21, 22, 23, 24, 25, 26, 27, 28, 29, 30, 31, 32, 33, 34, 35, 36, 37, 38, 39, 40, 41, 42, 43, 44, 45, 46, 47, 48, 49, 50, 51, 52, 53, 54, 55, 56, 57, 58, 59, 60, 61, 62, 63, 64, 65, 66, 67, 68, 69, 70, 71, 72, 73, 74, 75, 76, 77, 78, 79, 80, 81, 82, 83, 84, 85, 86, 87, 88, 89, 90, 91, 92, 93, 94, 95, 96, 97, 98, 99, 100, 101, 102, 103, 104, 105, 106, 107, 108, 109, 110, 111, 112, 113, 114, 115, 116, 117, 118, 119, 120, 121, 122, 123, 124, 125, 126, 127, 128, 129, 130, 131, 132, 133, 134, 135, 136, 137, 138, 139, 140, 141, 142, 143, 144, 145, 146, 147, 148, 149, 150, 151] (fun vi L => ∃ (k : Nat) (Q : Option Addr) (q : Nat), vi = [.int .i64 (k : Int)] ∧ L = [K.row (.slice Q (tldK iv nts h off pts.length k).length q) 58 5 (tldK iv nts h off pts.length k).length ((tldK iv nts h off pts.length k).flatMap eO), K.blk b7 25 [.int .i64 iv, .slice A pts.length c, .slice Q (tldK iv nts h off pts.length k).length q], K.blk b6 25 [.int .i64 0, .slice none 0 0, .slice none 0 0], K.blk b3 25 [.int .i64 iv, .slice A pts.length c, .slice B nts.length d]] ∧ k ≤ nts.length) (fun vi => nts.length - (intOf (K.nth vi 0)).toNat) ?_ ?_
 ·exact ⟨0, none, 0, rfl, rfl, Nat.zero_le _⟩
 intro vi vr L hJ
 obtain ⟨k, Q, q, rfl, rfl, hkn⟩ := hJ
 refine zY ?_
 refine K.seq (sr (qm ?_))
 refine qp (K.aA fo_25_2 rfl) ?_
 refine ql (K.fA one_23 rfl (K.m3) rfl) ?_
 refine qp (K.aB sl_23 rfl) ?_
 refine qp (K.lss rfl rfl) ?_
 refine sn ?_
 refine K.cond rfl (fun ht20 => ?_) (fun ht20 => ?_)
 ·try replace ht20 := Kq.oT ht20
  have hk : k < nts.length := by omega
  have htl := tld_len (iv := iv) (ns := nts) (h := h) (off := off) (n := pts.length) k
  refine K.skip (K.dA (K.seq (K.block (sr (qp (K.aA fo_25_2 rfl) ?_)))))
  refine ql (K.fA one_23 rfl (K.m3) rfl) ?_
  refine qm ?_
  refine K.vB (M := []) _ hN.sl sl_23 rfl rfl rfl (by omega) rfl ?_
  intro p26 hp26
  refine zN ?_
  refine ql (K.uB ag_58 rfl (hp26.any) rfl) ?_
  refine qn (K.alloc zr_58) fun b9 => ?_
  refine qt (K.vA sz_58 rfl rfl rfl rfl (K.rp0)) ?_
  refine sn (K.seq (sr (qp (K.aA fo_58_1 rfl) ?_)))
  refine ql (K.fA one_3 rfl (K.m0) rfl) ?_
  refine qp (K.lss rfl rfl) ?_
  refine qm ?_
  refine K.split 31 rfl (fun hg31 => ?_) (fun hg31 => ?_)
  ·try replace hg31 := Kq.oT hg31
   iterate 5 refine qs ?_
   refine qp (K.sA rfl) ?_
   refine qm ?_
   iterate 3 refine qs ?_
   refine qp (K.sA rfl) ?_
   refine qm ?_
   iterate 5 refine qs ?_
   refine qp (K.sA rfl) ?_
   refine sn (K.yA rfl ?_)
   refine K.exit (K.pA (K.zA (K.dA (K.gA (qm ?_)))))
   refine qp (K.tA rfl rfl (by omega)) ?_
   refine qa ?_
   refine K.lA ?_
   have hb : tldB iv h off pts.length k (nts.getD k default) = false := tb_1 (by omega)
   exact K.rA (L'' := [K.row (.slice Q (tldK iv nts h off pts.length k).length q) 58 5 (tldK iv nts h off pts.length k).length ((tldK iv nts h off pts.length k).flatMap eO), K.blk b7 25 [.int .i64 iv, .slice A pts.length c, .slice Q (tldK iv nts h off pts.length k).length q], K.blk b6 25 [.int .i64 0, .slice none 0 0, .slice none 0 0], K.blk b3 25 [.int .i64 iv, .slice A pts.length c, .slice B nts.length d]]) [.int .i64 ((k : Int) + 1)] ⟨k + 1, Q, q, rfl, by rw [tld_n hb], by omega⟩ (by simp [K.nth, intOf]; omega) (Kq.s1 Kq.s0) (by kernel_rfl)
  try replace hg31 := Kq.oF hg31
  refine qp (K.aA fo_58_1 rfl) ?_
  refine ql (K.fA one_3 rfl (K.m0) rfl) ?_
  refine qm ?_
  refine qp (K.aB yB rfl) ?_
  refine qp (K.geq rfl rfl) ?_
  refine qp (K.dB rfl) ?_
  refine qm ?_
  refine K.split 38 rfl (fun hg38 => ?_) (fun hg38 => ?_)
  ·try replace hg38 := Kq.oT hg38
   iterate 3 refine qs ?_
   refine qp (K.sA rfl) ?_
   refine qm ?_
   iterate 5 refine qs ?_
   refine qp (K.sA rfl) ?_
   refine sn (K.yA rfl ?_)
   refine K.exit (K.pA (K.zA (K.dA (K.gA (qm ?_)))))
   refine qp (K.tA rfl rfl (by omega)) ?_
   refine qa ?_
   refine K.lA ?_
   have hb : tldB iv h off pts.length k (nts.getD k default) = false := tb_1 (by omega)
   exact K.rA (L'' := [K.row (.slice Q (tldK iv nts h off pts.length k).length q) 58 5 (tldK iv nts h off pts.length k).length ((tldK iv nts h off pts.length k).flatMap eO), K.blk b7 25 [.int .i64 iv, .slice A pts.length c, .slice Q (tldK iv nts h off pts.length k).length q], K.blk b6 25 [.int .i64 0, .slice none 0 0, .slice none 0 0], K.blk b3 25 [.int .i64 iv, .slice A pts.length c, .slice B nts.length d]]) [.int .i64 ((k : Int) + 1)] ⟨k + 1, Q, q, rfl, by rw [tld_n hb], by omega⟩ (by simp [K.nth, intOf]; omega) (Kq.s1 Kq.s0) (by kernel_rfl)
  try replace hg38 := Kq.oF hg38
  refine qp (K.aA fo_58_2 rfl) ?_
  refine ql (K.fA one_3 rfl (K.m0) rfl) ?_
  refine qp (K.lss rfl rfl) ?_
  refine qp (K.dB rfl) ?_
  refine qm ?_
  refine K.split 43 rfl (fun hg43 => ?_) (fun hg43 => ?_)
  ·try replace hg43 := Kq.oT hg43
   iterate 5 refine qs ?_
   refine qp (K.sA rfl) ?_
   refine sn (K.yA rfl ?_)
   refine K.exit (K.pA (K.zA (K.dA (K.gA (qm ?_)))))
   refine qp (K.tA rfl rfl (by omega)) ?_
   refine qa ?_
   refine K.lA ?_
   have hb : tldB iv h off pts.length k (nts.getD k default) = false := tb_1 (by omega)
   exact K.rA (L'' := [K.row (.slice Q (tldK iv nts h off pts.length k).length q) 58 5 (tldK iv nts h off pts.length k).length ((tldK iv nts h off pts.length k).flatMap eO), K.blk b7 25 [.int .i64 iv, .slice A pts.length c, .slice Q (tldK iv nts h off pts.length k).length q], K.blk b6 25 [.int .i64 0, .slice none 0 0, .slice none 0 0], K.blk b3 25 [.int .i64 iv, .slice A pts.length c, .slice B nts.length d]]) [.int .i64 ((k : Int) + 1)] ⟨k + 1, Q, q, rfl, by rw [tld_n hb], by omega⟩ (by simp [K.nth, intOf]; omega) (Kq.s1 Kq.s0) (by kernel_rfl)
  try replace hg43 := Kq.oF hg43
  refine qp (K.aA fo_58_2 rfl) ?_
  refine ql (K.fA one_3 rfl (K.m0) rfl) ?_
  refine qm ?_
  refine qp (K.aB yB rfl) ?_
  refine qp (K.geq rfl rfl) ?_
  refine qp (K.dB rfl) ?_
  refine sn ?_
  refine K.cond rfl (fun ht49 => ?_) (fun ht49 => ?_)
  ·try replace ht49 := Kq.oT ht49
   refine K.exit (K.pA (K.zA (K.dA (K.gA (qm ?_)))))
   refine qp (K.tA rfl rfl (by omega)) ?_
   refine qa ?_
   refine K.lA ?_
   have hb : tldB iv h off pts.length k (nts.getD k default) = false := tb_1 (by omega)
   exact K.rA (L'' := [K.row (.slice Q (tldK iv nts h off pts.length k).length q) 58 5 (tldK iv nts h off pts.length k).length ((tldK iv nts h off pts.length k).flatMap eO), K.blk b7 25 [.int .i64 iv, .slice A pts.length c, .slice Q (tldK iv nts h off pts.length k).length q], K.blk b6 25 [.int .i64 0, .slice none 0 0, .slice none 0 0], K.blk b3 25 [.int .i64 iv, .slice A pts.length c, .slice B nts.length d]]) [.int .i64 ((k : Int) + 1)] ⟨k + 1, Q, q, rfl, by rw [tld_n hb], by omega⟩ (by simp [K.nth, intOf]; omega) (Kq.s1 Kq.s0) (by kernel_rfl)
  try replace ht49 := Kq.oF ht49
  have ha0 : 0 ≤ (nts.getD k default).a ∧ (nts.getD k default).a < (h.length : Int) := by omega
  have hb0 : 0 ≤ (nts.getD k default).b ∧ (nts.getD k default).b < (h.length : Int) := by omega
  have hva : 0 ≤ hA h (nts.getD k default).a ∧ hA h (nts.getD k default).a ≤ 9000 := hhb _ (K.gt_mem (by omega))
  have hvb : 0 ≤ hA h (nts.getD k default).b ∧ hA h (nts.getD k default).b ≤ 9000 := hhb _ (K.gt_mem (by omega))
  have hf := fifty (off := off) (i := k)
  have ht1 := trn_bd hxb (2 * k)
  have ht2 := trn_bd hxb (2 * k + 1)
  have hdv0 : 0 ≤ hA h (nts.getD k default).a / iv := Int.ediv_nonneg hva.1 (by omega)
  have hdv1 : hA h (nts.getD k default).a / iv ≤ hA h (nts.getD k default).a := Int.ediv_le_self iv hva.1
  have eA : h.getD ((nts.getD k default).a.toNat) default = hA h (nts.getD k default).a := rfl
  have eB : h.getD ((nts.getD k default).b.toNat) default = hA h (nts.getD k default).b := rfl
  have eD : h.getD ((nts.getD k default).a.toNat) default / iv = hA h (nts.getD k default).a / iv := rfl
  refine K.skip (K.dA (sr ?_))
  iterate 2 refine qm ?_
  refine qp (K.Pure.eq (K.mul_i64 rfl rfl (by omega)) (show _ = Value.int .i64 ((2 * k : Nat) : Int) from congrArg (Value.int .i64) (by omega))) ?_
  refine qc (K.nA cal_45 (fun F w hF hw => c45 (hX.pass hw) hxb hxl (by omega))) ?_
  refine qp (K.Pure.eq (K.rem_i64 rfl rfl (by omega) (by omega)) (show _ = Value.int .i64 (less off k) from rfl)) ?_
  iterate 2 refine qm ?_
  refine qp (K.Pure.eq (K.mul_i64 rfl rfl (by omega)) (show _ = Value.int .i64 ((2 * k : Nat) : Int) from congrArg (Value.int .i64) (by omega))) ?_
  refine qp (K.Pure.eq (K.tA rfl rfl (by omega)) (show _ = Value.int .i64 ((2 * k + 1 : Nat) : Int) from congrArg (Value.int .i64) (by omega))) ?_
  refine qc (K.nA cal_45 (fun F w hF hw => c45 (hX.pass hw) hxb hxl (by omega))) ?_
  refine qp (K.Pure.eq (K.rem_i64 rfl rfl (by omega) (by omega)) (show _ = Value.int .i64 (more off k) from rfl)) ?_
  iterate 2 refine qa ?_
  refine sn (K.seq (sr (qp (K.aA fo_58_0 rfl) ?_)))
  refine ql (K.fA one_3 rfl (K.m0) rfl) ?_
  refine sn (K.block (sr (qp (K.eql rfl rfl) ?_)))
  refine qa ?_
  refine sn ?_
  refine K.cond rfl (fun ht63 => ?_) (fun ht63 => ?_)
  ·try replace ht63 := Kq.oT ht63
   have hnx := nx_1 (iv := iv) (h := h) (off := off) (i := k) (x := (nts.getD k default)) ht63
   refine K.nB [18] uA ?_
   refine dp 0 rfl (K.move) ?_
   refine dp 1 rfl (K.aA fo_58_1 rfl) ?_
   refine dm 2 rfl (K.fA one_3 rfl (K.m0) rfl) ?_
   refine K.d_ix (M := []) 3 ((nts.getD k default).a.toNat) rfl hH.sl yB rfl rfl (by omega) (by omega) (by kernel_rfl) rfl ?_
   intro p68 hp68
   refine zN ?_
   refine dm 4 rfl (K.load1 one_3 rfl (hp68.any)) ?_
   refine dp 5 rfl (K.move) ?_
   refine dp 6 rfl (K.oB rfl rfl (by omega)) ?_
   refine dp 7 rfl (K.max_int rfl rfl) ?_
   refine dp 8 rfl (K.move) ?_
   refine dp 9 rfl (K.aA fo_58_1 rfl) ?_
   refine dm 10 rfl (K.fA one_3 rfl (K.m0) rfl) ?_
   refine K.d_ix (M := []) 11 ((nts.getD k default).a.toNat) rfl hH.sl yB rfl rfl (by omega) (by omega) (by kernel_rfl) rfl ?_
   intro p76 hp76
   refine zN ?_
   refine dm 12 rfl (K.load1 one_3 rfl (hp76.any)) ?_
   refine dp 13 rfl (K.move) ?_
   refine dp 14 rfl (K.tA rfl rfl (by omega)) ?_
   refine dp 15 rfl (K.min_int rfl rfl) ?_
   refine K.kB 16 rfl (K.nA cal_33 (fun F w hF hw => c33 w)) (fun _ h => h) (by kernel_rfl) rfl ?_
   refine zN ?_
   refine dp 17 rfl (K.aA fo_58_3 rfl) ?_
   refine K.eC 18 rfl (K.store sz_46 rfl rfl rfl rfl (K.rp0)) rfl (by kernel_rfl) rfl ?_
   intro _ _
   refine zN ?_
   refine dd (K.kA (K.dA (sr (ql (K.jA ag_25 rfl (K.m2) rfl) ?_))))
   refine qn (K.alloc zr_25) fun b13 => ?_
   refine qt (K.vA sz_25 rfl rfl rfl rfl (K.rp0)) ?_
   refine sn (sr (ql (K.jA ag_58 rfl (K.m1) rfl) ?_))
   refine qn (K.buildSlice (bs23 _ _ _ _ _)) fun b142 => ?_
   refine qp (K.aA fo_25_2 rfl) ?_
   refine qt (K.store sz_23 rfl rfl rfl rfl (K.rp1)) ?_
   refine sn (sr (ql (K.jA ag_25 rfl (K.m1) rfl) ?_))
   refine qc (K.nA cal_47 (fun F w hF hw => (by have hL : K.Rd w (some ⟨b142, 0, none⟩) 5 eO [(newX iv h off k (nts.getD k default))] := K.Rd.lit hw (hF _ (K.m0)) (fun _ => rfl) (by decide) (by rw [List.flatMap_cons, List.flatMap_nil, List.append_nil, hnx] <;> rfl); have hg := c47 (iv := iv) (c := c) (d := 1) (nts := [(newX iv h off k (nts.getD k default))]) (hP.pass hw) hL (by omega) (by simp) hcp; rw [chkS_one g] at hg; exact hg))) ?_
   refine sn ?_
   refine K.cond rfl (fun ht145 => ?_) (fun ht145 => ?_)
   ·try replace ht145 := Kq.oT ht145
    refine K.gA (qp (K.aA fo_25_2 rfl) ?_)
    refine ql (K.fA one_23 rfl (K.m4) rfl) ?_
    refine ql (K.jA ag_58 rfl (K.m2) rfl) ?_
    refine qn (K.buildSlice (bs23 _ _ _ _ _)) fun b149 => ?_
    refine K.xB (K.append el_23 rfl rfl (K.PtrL.own' (K.m0)) rfl rfl (by decide) (by omega) (by omega) (fun _ _ => K.rp4)) rfl ?_
    rintro ⟨g150, c150⟩ _
    refine zN ?_
    refine qp (K.aA fo_25_2 rfl) ?_
    refine qt (K.store sz_23 rfl rfl rfl rfl (K.rp5)) ?_
    refine K.lA (K.kA (K.dA (K.gA (qm ?_))))
    refine qp (K.tA rfl rfl (by omega)) ?_
    refine qa ?_
    refine K.lA ?_
    have hb : tldB iv h off pts.length k (nts.getD k default) = true := tb_t (by omega) (fun h3 => by first | exact Decidable.not_not.1 ht116 | omega) (by simpa using ht145)
    have hl2 : (tldK iv nts h off pts.length (k + 1)).length = (tldK iv nts h off pts.length k).length + 1 := by rw [tld_y hb, List.length_append]; rfl
    have hf2 : (tldK iv nts h off pts.length (k + 1)).flatMap eO = (tldK iv nts h off pts.length k).flatMap eO ++ eO (newX iv h off k (nts.getD k default)) := by rw [tld_y hb, List.flatMap_append]; simp
    rw [hnx] at hf2
    refine K.permH (L' := [_, _, _, _, _, _, _, _]) (List.Perm.trans (List.perm_middle (l₁ := [_, _, _, _])) (List.Perm.cons _ (List.Perm.trans (List.perm_middle (l₁ := [_, _, _, _])) (List.Perm.cons _ (List.Perm.trans (List.perm_middle (l₁ := [_, _, _, _])) (List.Perm.cons _ (List.Perm.trans (List.perm_middle (l₁ := [_, _, _, _])) (List.Perm.cons _ Kq.p0)))))))) ?_
    exact K.rA (L'' := [K.row (.slice (some ⟨g150, 0, none⟩) ((tldK iv nts h off pts.length k).length + 1) c150) 58 5 ((tldK iv nts h off pts.length k).length + 1) ((tldK iv nts h off pts.length k).flatMap eO ++ _), K.blk b7 25 [.int .i64 iv, .slice A pts.length c, .slice (some ⟨g150, 0, none⟩) ((tldK iv nts h off pts.length k).length + 1) c150], K.blk b6 25 [.int .i64 0, .slice none 0 0, .slice none 0 0], K.blk b3 25 [.int .i64 iv, .slice A pts.length c, .slice B nts.length d]]) [.int .i64 ((k : Int) + 1)] ⟨k + 1, some ⟨g150, 0, none⟩, c150, rfl, by rw [hl2, hf2] <;> rfl, by omega⟩ (by simp [K.nth, intOf]; omega) (Kq.sc (Kq.sc (Kq.sc (Kq.sc (List.nil_sublist _))))) (by kernel_rfl)
   try replace ht145 := Kq.oF ht145
   refine K.skip (K.kA (K.dA (K.gA (qm ?_))))
   refine qp (K.tA rfl rfl (by omega)) ?_
   refine qa ?_
   refine K.lA ?_
   have hb : tldB iv h off pts.length k (nts.getD k default) = false := tb_3 (by simpa using ht145)
   exact K.rA (L'' := [K.row (.slice Q (tldK iv nts h off pts.length k).length q) 58 5 (tldK iv nts h off pts.length k).length ((tldK iv nts h off pts.length k).flatMap eO), K.blk b7 25 [.int .i64 iv, .slice A pts.length c, .slice Q (tldK iv nts h off pts.length k).length q], K.blk b6 25 [.int .i64 0, .slice none 0 0, .slice none 0 0], K.blk b3 25 [.int .i64 iv, .slice A pts.length c, .slice B nts.length d]]) [.int .i64 ((k : Int) + 1)] ⟨k + 1, Q, q, rfl, by rw [tld_n hb], by omega⟩ (by simp [K.nth, intOf]; omega) (Kq.s1 (Kq.s1 (Kq.s1 Kq.s0))) (by kernel_rfl)
  try replace ht63 := Kq.oF ht63
  refine sr (qp (K.eql rfl rfl) ?_)
  refine qa ?_
  refine sn ?_
  refine K.cond rfl (fun ht83 => ?_) (fun ht83 => ?_)
  ·try replace ht83 := Kq.oT ht83
   have hnx := nx_2 (iv := iv) (h := h) (off := off) (i := k) (x := (nts.getD k default)) ht83
   refine K.nB [19] uA ?_
   refine dp 0 rfl (K.move) ?_
   refine dp 1 rfl (K.aA fo_58_1 rfl) ?_
   refine dm 2 rfl (K.fA one_3 rfl (K.m0) rfl) ?_
   refine K.d_ix (M := []) 3 ((nts.getD k default).a.toNat) rfl hH.sl yB rfl rfl (by omega) (by omega) (by kernel_rfl) rfl ?_
   intro p88 hp88
   refine zN ?_
   refine dm 4 rfl (K.load1 one_3 rfl (hp88.any)) ?_
   refine dp 5 rfl (K.aA fo_25_0 rfl) ?_
   refine dm 6 rfl (K.fA one_3 rfl (K.m4) rfl) ?_
   refine dp 7 rfl (K.quo_i64 rfl rfl (by omega) (by omega) (by omega)) ?_
   refine dp 8 rfl (K.move) ?_
   refine dp 9 rfl (K.aA fo_58_1 rfl) ?_
   refine dm 10 rfl (K.fA one_3 rfl (K.m0) rfl) ?_
   refine K.d_ix (M := []) 11 ((nts.getD k default).a.toNat) rfl hH.sl yB rfl rfl (by omega) (by omega) (by kernel_rfl) rfl ?_
   intro p96 hp96
   refine zN ?_
   refine dm 12 rfl (K.load1 one_3 rfl (hp96.any)) ?_
   refine dp 13 rfl (K.aA fo_25_0 rfl) ?_
   refine dm 14 rfl (K.fA one_3 rfl (K.m4) rfl) ?_
   refine dp 15 rfl (K.quo_i64 rfl rfl (by omega) (by omega) (by omega)) ?_
   refine dp 16 rfl (K.tA rfl rfl (by omega)) ?_
   refine K.kB 17 rfl (K.nA cal_33 (fun F w hF hw => c33 w)) (fun _ h => h) (by kernel_rfl) rfl ?_
   refine zN ?_
   refine dp 18 rfl (K.aA fo_58_3 rfl) ?_
   refine K.eC 19 rfl (K.store sz_46 rfl rfl rfl rfl (K.rp0)) rfl (by kernel_rfl) rfl ?_
   intro _ _
   refine zN ?_
   refine dd (K.kA (K.dA (sr (ql (K.jA ag_25 rfl (K.m2) rfl) ?_))))
   refine qn (K.alloc zr_25) fun b13 => ?_
   refine qt (K.vA sz_25 rfl rfl rfl rfl (K.rp0)) ?_
   refine sn (sr (ql (K.jA ag_58 rfl (K.m1) rfl) ?_))
   refine qn (K.buildSlice (bs23 _ _ _ _ _)) fun b142 => ?_
   refine qp (K.aA fo_25_2 rfl) ?_
   refine qt (K.store sz_23 rfl rfl rfl rfl (K.rp1)) ?_
   refine sn (sr (ql (K.jA ag_25 rfl (K.m1) rfl) ?_))
   refine qc (K.nA cal_47 (fun F w hF hw => (by have hL : K.Rd w (some ⟨b142, 0, none⟩) 5 eO [(newX iv h off k (nts.getD k default))] := K.Rd.lit hw (hF _ (K.m0)) (fun _ => rfl) (by decide) (by rw [List.flatMap_cons, List.flatMap_nil, List.append_nil, hnx] <;> rfl); have hg := c47 (iv := iv) (c := c) (d := 1) (nts := [(newX iv h off k (nts.getD k default))]) (hP.pass hw) hL (by omega) (by simp) hcp; rw [chkS_one g] at hg; exact hg))) ?_
   refine sn ?_
   refine K.cond rfl (fun ht145 => ?_) (fun ht145 => ?_)
   ·try replace ht145 := Kq.oT ht145
    refine K.gA (qp (K.aA fo_25_2 rfl) ?_)
    refine ql (K.fA one_23 rfl (K.m4) rfl) ?_
    refine ql (K.jA ag_58 rfl (K.m2) rfl) ?_
    refine qn (K.buildSlice (bs23 _ _ _ _ _)) fun b149 => ?_
    refine K.xB (K.append el_23 rfl rfl (K.PtrL.own' (K.m0)) rfl rfl (by decide) (by omega) (by omega) (fun _ _ => K.rp4)) rfl ?_
    rintro ⟨g150, c150⟩ _
    refine zN ?_
    refine qp (K.aA fo_25_2 rfl) ?_
    refine qt (K.store sz_23 rfl rfl rfl rfl (K.rp5)) ?_
    refine K.lA (K.kA (K.dA (K.gA (qm ?_))))
    refine qp (K.tA rfl rfl (by omega)) ?_
    refine qa ?_
    refine K.lA ?_
    have hb : tldB iv h off pts.length k (nts.getD k default) = true := tb_t (by omega) (fun h3 => by first | exact Decidable.not_not.1 ht116 | omega) (by simpa using ht145)
    have hl2 : (tldK iv nts h off pts.length (k + 1)).length = (tldK iv nts h off pts.length k).length + 1 := by rw [tld_y hb, List.length_append]; rfl
    have hf2 : (tldK iv nts h off pts.length (k + 1)).flatMap eO = (tldK iv nts h off pts.length k).flatMap eO ++ eO (newX iv h off k (nts.getD k default)) := by rw [tld_y hb, List.flatMap_append]; simp
    rw [hnx] at hf2
    refine K.permH (L' := [_, _, _, _, _, _, _, _]) (List.Perm.trans (List.perm_middle (l₁ := [_, _, _, _])) (List.Perm.cons _ (List.Perm.trans (List.perm_middle (l₁ := [_, _, _, _])) (List.Perm.cons _ (List.Perm.trans (List.perm_middle (l₁ := [_, _, _, _])) (List.Perm.cons _ (List.Perm.trans (List.perm_middle (l₁ := [_, _, _, _])) (List.Perm.cons _ Kq.p0)))))))) ?_
    exact K.rA (L'' := [K.row (.slice (some ⟨g150, 0, none⟩) ((tldK iv nts h off pts.length k).length + 1) c150) 58 5 ((tldK iv nts h off pts.length k).length + 1) ((tldK iv nts h off pts.length k).flatMap eO ++ _), K.blk b7 25 [.int .i64 iv, .slice A pts.length c, .slice (some ⟨g150, 0, none⟩) ((tldK iv nts h off pts.length k).length + 1) c150], K.blk b6 25 [.int .i64 0, .slice none 0 0, .slice none 0 0], K.blk b3 25 [.int .i64 iv, .slice A pts.length c, .slice B nts.length d]]) [.int .i64 ((k : Int) + 1)] ⟨k + 1, some ⟨g150, 0, none⟩, c150, rfl, by rw [hl2, hf2] <;> rfl, by omega⟩ (by simp [K.nth, intOf]; omega) (Kq.sc (Kq.sc (Kq.sc (Kq.sc (List.nil_sublist _))))) (by kernel_rfl)
   try replace ht145 := Kq.oF ht145
   refine K.skip (K.kA (K.dA (K.gA (qm ?_))))
   refine qp (K.tA rfl rfl (by omega)) ?_
   refine qa ?_
   refine K.lA ?_
   have hb : tldB iv h off pts.length k (nts.getD k default) = false := tb_3 (by simpa using ht145)
   exact K.rA (L'' := [K.row (.slice Q (tldK iv nts h off pts.length k).length q) 58 5 (tldK iv nts h off pts.length k).length ((tldK iv nts h off pts.length k).flatMap eO), K.blk b7 25 [.int .i64 iv, .slice A pts.length c, .slice Q (tldK iv nts h off pts.length k).length q], K.blk b6 25 [.int .i64 0, .slice none 0 0, .slice none 0 0], K.blk b3 25 [.int .i64 iv, .slice A pts.length c, .slice B nts.length d]]) [.int .i64 ((k : Int) + 1)] ⟨k + 1, Q, q, rfl, by rw [tld_n hb], by omega⟩ (by simp [K.nth, intOf]; omega) (Kq.s1 (Kq.s1 (Kq.s1 Kq.s0))) (by kernel_rfl)
  try replace ht83 := Kq.oF ht83
  refine sr (qp (K.eql rfl rfl) ?_)
  refine qa ?_
  refine sn ?_
  refine K.cond rfl (fun ht104 => ?_) (fun ht104 => ?_)
  ·try replace ht104 := Kq.oT ht104
   have hnx := nx_0 (iv := iv) (h := h) (off := off) (i := k) (x := (nts.getD k default)) (by omega) (by omega) (by omega)
   refine K.seq ?_
   refine K.nB [] uA ?_
   refine dp 0 rfl (K.move) ?_
   refine dp 1 rfl (K.aA fo_58_1 rfl) ?_
   refine dm 2 rfl (K.fA one_3 rfl (K.m0) rfl) ?_
   refine K.d_ix (M := []) 3 ((nts.getD k default).a.toNat) rfl hH.sl yB rfl rfl (by omega) (by omega) (by kernel_rfl) rfl ?_
   intro p109 hp109
   refine zN ?_
   refine dm 4 rfl (K.load1 one_3 rfl (hp109.any)) ?_
   refine dp 5 rfl (K.move) ?_
   refine dp 6 rfl (K.aA fo_58_2 rfl) ?_
   refine dm 7 rfl (K.fA one_3 rfl (K.m0) rfl) ?_
   refine K.d_ix (M := []) 8 ((nts.getD k default).b.toNat) rfl hH.sl yB rfl rfl (by omega) (by omega) (by kernel_rfl) rfl ?_
   intro p114 hp114
   refine zN ?_
   refine dm 9 rfl (K.load1 one_3 rfl (hp114.any)) ?_
   refine dp 10 rfl (K.neq rfl rfl) ?_
   refine dd (K.dA ?_)
   refine K.cond rfl (fun ht116 => ?_) (fun ht116 => ?_)
   ·try replace ht116 := Kq.oT ht116
    refine K.exit ?_
    refine K.exit_out rfl ?_
    refine K.pA (K.zA (K.dA (K.gA (qm ?_))))
    refine qp (K.tA rfl rfl (by omega)) ?_
    refine qa ?_
    refine K.lA ?_
    have hb : tldB iv h off pts.length k (nts.getD k default) = false := tb_2 (by omega) ht116
    exact K.rA (L'' := [K.row (.slice Q (tldK iv nts h off pts.length k).length q) 58 5 (tldK iv nts h off pts.length k).length ((tldK iv nts h off pts.length k).flatMap eO), K.blk b7 25 [.int .i64 iv, .slice A pts.length c, .slice Q (tldK iv nts h off pts.length k).length q], K.blk b6 25 [.int .i64 0, .slice none 0 0, .slice none 0 0], K.blk b3 25 [.int .i64 iv, .slice A pts.length c, .slice B nts.length d]]) [.int .i64 ((k : Int) + 1)] ⟨k + 1, Q, q, rfl, by rw [tld_n hb], by omega⟩ (by simp [K.nth, intOf]; omega) (Kq.s1 Kq.s0) (by kernel_rfl)
   try replace ht116 := Kq.oF ht116
   refine K.skip (K.kA (K.dA (sr (ql (K.jA ag_25 rfl (K.m2) rfl) ?_))))
   refine qn (K.alloc zr_25) fun b13 => ?_
   refine qt (K.vA sz_25 rfl rfl rfl rfl (K.rp0)) ?_
   refine sn (sr (ql (K.jA ag_58 rfl (K.m1) rfl) ?_))
   refine qn (K.buildSlice (bs23 _ _ _ _ _)) fun b142 => ?_
   refine qp (K.aA fo_25_2 rfl) ?_
   refine qt (K.store sz_23 rfl rfl rfl rfl (K.rp1)) ?_
   refine sn (sr (ql (K.jA ag_25 rfl (K.m1) rfl) ?_))
   refine qc (K.nA cal_47 (fun F w hF hw => (by have hL : K.Rd w (some ⟨b142, 0, none⟩) 5 eO [(newX iv h off k (nts.getD k default))] := K.Rd.lit hw (hF _ (K.m0)) (fun _ => rfl) (by decide) (by rw [List.flatMap_cons, List.flatMap_nil, List.append_nil, hnx] <;> rfl); have hg := c47 (iv := iv) (c := c) (d := 1) (nts := [(newX iv h off k (nts.getD k default))]) (hP.pass hw) hL (by omega) (by simp) hcp; rw [chkS_one g] at hg; exact hg))) ?_
   refine sn ?_
   refine K.cond rfl (fun ht145 => ?_) (fun ht145 => ?_)
   ·try replace ht145 := Kq.oT ht145
    refine K.gA (qp (K.aA fo_25_2 rfl) ?_)
    refine ql (K.fA one_23 rfl (K.m4) rfl) ?_
    refine ql (K.jA ag_58 rfl (K.m2) rfl) ?_
    refine qn (K.buildSlice (bs23 _ _ _ _ _)) fun b149 => ?_
    refine K.xB (K.append el_23 rfl rfl (K.PtrL.own' (K.m0)) rfl rfl (by decide) (by omega) (by omega) (fun _ _ => K.rp4)) rfl ?_
    rintro ⟨g150, c150⟩ _
    refine zN ?_
    refine qp (K.aA fo_25_2 rfl) ?_
    refine qt (K.store sz_23 rfl rfl rfl rfl (K.rp5)) ?_
    refine K.lA (K.kA (K.dA (K.gA (qm ?_))))
    refine qp (K.tA rfl rfl (by omega)) ?_
    refine qa ?_
    refine K.lA ?_
    have hb : tldB iv h off pts.length k (nts.getD k default) = true := tb_t (by omega) (fun h3 => by first | exact Decidable.not_not.1 ht116 | omega) (by simpa using ht145)
    have hl2 : (tldK iv nts h off pts.length (k + 1)).length = (tldK iv nts h off pts.length k).length + 1 := by rw [tld_y hb, List.length_append]; rfl
    have hf2 : (tldK iv nts h off pts.length (k + 1)).flatMap eO = (tldK iv nts h off pts.length k).flatMap eO ++ eO (newX iv h off k (nts.getD k default)) := by rw [tld_y hb, List.flatMap_append]; simp
    rw [hnx] at hf2
    refine K.permH (L' := [_, _, _, _, _, _, _, _]) (List.Perm.trans (List.perm_middle (l₁ := [_, _, _, _])) (List.Perm.cons _ (List.Perm.trans (List.perm_middle (l₁ := [_, _, _, _])) (List.Perm.cons _ (List.Perm.trans (List.perm_middle (l₁ := [_, _, _, _])) (List.Perm.cons _ (List.Perm.trans (List.perm_middle (l₁ := [_, _, _, _])) (List.Perm.cons _ Kq.p0)))))))) ?_
    exact K.rA (L'' := [K.row (.slice (some ⟨g150, 0, none⟩) ((tldK iv nts h off pts.length k).length + 1) c150) 58 5 ((tldK iv nts h off pts.length k).length + 1) ((tldK iv nts h off pts.length k).flatMap eO ++ _), K.blk b7 25 [.int .i64 iv, .slice A pts.length c, .slice (some ⟨g150, 0, none⟩) ((tldK iv nts h off pts.length k).length + 1) c150], K.blk b6 25 [.int .i64 0, .slice none 0 0, .slice none 0 0], K.blk b3 25 [.int .i64 iv, .slice A pts.length c, .slice B nts.length d]]) [.int .i64 ((k : Int) + 1)] ⟨k + 1, some ⟨g150, 0, none⟩, c150, rfl, by rw [hl2, hf2] <;> rfl, by omega⟩ (by simp [K.nth, intOf]; omega) (Kq.sc (Kq.sc (Kq.sc (Kq.sc (List.nil_sublist _))))) (by kernel_rfl)
   try replace ht145 := Kq.oF ht145
   refine K.skip (K.kA (K.dA (K.gA (qm ?_))))
   refine qp (K.tA rfl rfl (by omega)) ?_
   refine qa ?_
   refine K.lA ?_
   have hb : tldB iv h off pts.length k (nts.getD k default) = false := tb_3 (by simpa using ht145)
   exact K.rA (L'' := [K.row (.slice Q (tldK iv nts h off pts.length k).length q) 58 5 (tldK iv nts h off pts.length k).length ((tldK iv nts h off pts.length k).flatMap eO), K.blk b7 25 [.int .i64 iv, .slice A pts.length c, .slice Q (tldK iv nts h off pts.length k).length q], K.blk b6 25 [.int .i64 0, .slice none 0 0, .slice none 0 0], K.blk b3 25 [.int .i64 iv, .slice A pts.length c, .slice B nts.length d]]) [.int .i64 ((k : Int) + 1)] ⟨k + 1, Q, q, rfl, by rw [tld_n hb], by omega⟩ (by simp [K.nth, intOf]; omega) (Kq.s1 (Kq.s1 (Kq.s1 Kq.s0))) (by kernel_rfl)
  try replace ht104 := Kq.oF ht104
  refine sr (qp (K.eql rfl rfl) ?_)
  refine qa ?_
  refine sn ?_
  refine K.cond rfl (fun ht117 => ?_) (fun ht117 => ?_)
  ·try replace ht117 := Kq.oT ht117
   have hnx := nx_4 (iv := iv) (h := h) (off := off) (i := k) (x := (nts.getD k default)) ht117
   refine K.seq ?_
   refine K.nB [] uA ?_
   refine dp 0 rfl (K.move) ?_
   refine dp 1 rfl (K.aA fo_58_1 rfl) ?_
   refine dm 2 rfl (K.fA one_3 rfl (K.m0) rfl) ?_
   refine K.d_ix (M := []) 3 ((nts.getD k default).a.toNat) rfl hH.sl yB rfl rfl (by omega) (by omega) (by kernel_rfl) rfl ?_
   intro p122 hp122
   refine zN ?_
   refine dm 4 rfl (K.load1 one_3 rfl (hp122.any)) ?_
   refine dp 5 rfl (K.move) ?_
   refine dp 6 rfl (K.aA fo_58_2 rfl) ?_
   refine dm 7 rfl (K.fA one_3 rfl (K.m0) rfl) ?_
   refine K.d_ix (M := []) 8 ((nts.getD k default).b.toNat) rfl hH.sl yB rfl rfl (by omega) (by omega) (by kernel_rfl) rfl ?_
   intro p127 hp127
   refine zN ?_
   refine dm 9 rfl (K.load1 one_3 rfl (hp127.any)) ?_
   refine dp 10 rfl (K.oB rfl rfl (by omega)) ?_
   refine dp 11 rfl (K.assign) ?_
   refine dd (K.dA (K.gA ?_))
   iterate 2 refine qm ?_
   refine qp (K.oB rfl rfl (by omega)) ?_
   refine qp (K.max_int rfl rfl) ?_
   iterate 2 refine qm ?_
   refine qp (K.tA rfl rfl (by omega)) ?_
   refine qp (K.min_int rfl rfl) ?_
   refine qc (K.nA cal_33 (fun F w hF hw => c33 w)) ?_
   refine qp (K.aA fo_58_3 rfl) ?_
   refine qt (K.store sz_46 rfl rfl rfl rfl (K.rp0)) ?_
   refine K.lA (K.kA (K.dA (sr (ql (K.jA ag_25 rfl (K.m2) rfl) ?_))))
   refine qn (K.alloc zr_25) fun b13 => ?_
   refine qt (K.vA sz_25 rfl rfl rfl rfl (K.rp0)) ?_
   refine sn (sr (ql (K.jA ag_58 rfl (K.m1) rfl) ?_))
   refine qn (K.buildSlice (bs23 _ _ _ _ _)) fun b142 => ?_
   refine qp (K.aA fo_25_2 rfl) ?_
   refine qt (K.store sz_23 rfl rfl rfl rfl (K.rp1)) ?_
   refine sn (sr (ql (K.jA ag_25 rfl (K.m1) rfl) ?_))
   refine qc (K.nA cal_47 (fun F w hF hw => (by have hL : K.Rd w (some ⟨b142, 0, none⟩) 5 eO [(newX iv h off k (nts.getD k default))] := K.Rd.lit hw (hF _ (K.m0)) (fun _ => rfl) (by decide) (by rw [List.flatMap_cons, List.flatMap_nil, List.append_nil, hnx] <;> rfl); have hg := c47 (iv := iv) (c := c) (d := 1) (nts := [(newX iv h off k (nts.getD k default))]) (hP.pass hw) hL (by omega) (by simp) hcp; rw [chkS_one g] at hg; exact hg))) ?_
   refine sn ?_
   refine K.cond rfl (fun ht145 => ?_) (fun ht145 => ?_)
   ·try replace ht145 := Kq.oT ht145
    refine K.gA (qp (K.aA fo_25_2 rfl) ?_)
    refine ql (K.fA one_23 rfl (K.m4) rfl) ?_
    refine ql (K.jA ag_58 rfl (K.m2) rfl) ?_
    refine qn (K.buildSlice (bs23 _ _ _ _ _)) fun b149 => ?_
    refine K.xB (K.append el_23 rfl rfl (K.PtrL.own' (K.m0)) rfl rfl (by decide) (by omega) (by omega) (fun _ _ => K.rp4)) rfl ?_
    rintro ⟨g150, c150⟩ _
    refine zN ?_
    refine qp (K.aA fo_25_2 rfl) ?_
    refine qt (K.store sz_23 rfl rfl rfl rfl (K.rp5)) ?_
    refine K.lA (K.kA (K.dA (K.gA (qm ?_))))
    refine qp (K.tA rfl rfl (by omega)) ?_
    refine qa ?_
    refine K.lA ?_
    have hb : tldB iv h off pts.length k (nts.getD k default) = true := tb_t (by omega) (fun h3 => by first | exact Decidable.not_not.1 ht116 | omega) (by simpa using ht145)
    have hl2 : (tldK iv nts h off pts.length (k + 1)).length = (tldK iv nts h off pts.length k).length + 1 := by rw [tld_y hb, List.length_append]; rfl
    have hf2 : (tldK iv nts h off pts.length (k + 1)).flatMap eO = (tldK iv nts h off pts.length k).flatMap eO ++ eO (newX iv h off k (nts.getD k default)) := by rw [tld_y hb, List.flatMap_append]; simp
    rw [hnx] at hf2
    refine K.permH (L' := [_, _, _, _, _, _, _, _]) (List.Perm.trans (List.perm_middle (l₁ := [_, _, _, _])) (List.Perm.cons _ (List.Perm.trans (List.perm_middle (l₁ := [_, _, _, _])) (List.Perm.cons _ (List.Perm.trans (List.perm_middle (l₁ := [_, _, _, _])) (List.Perm.cons _ (List.Perm.trans (List.perm_middle (l₁ := [_, _, _, _])) (List.Perm.cons _ Kq.p0)))))))) ?_
    exact K.rA (L'' := [K.row (.slice (some ⟨g150, 0, none⟩) ((tldK iv nts h off pts.length k).length + 1) c150) 58 5 ((tldK iv nts h off pts.length k).length + 1) ((tldK iv nts h off pts.length k).flatMap eO ++ _), K.blk b7 25 [.int .i64 iv, .slice A pts.length c, .slice (some ⟨g150, 0, none⟩) ((tldK iv nts h off pts.length k).length + 1) c150], K.blk b6 25 [.int .i64 0, .slice none 0 0, .slice none 0 0], K.blk b3 25 [.int .i64 iv, .slice A pts.length c, .slice B nts.length d]]) [.int .i64 ((k : Int) + 1)] ⟨k + 1, some ⟨g150, 0, none⟩, c150, rfl, by rw [hl2, hf2] <;> rfl, by omega⟩ (by simp [K.nth, intOf]; omega) (Kq.sc (Kq.sc (Kq.sc (Kq.sc (List.nil_sublist _))))) (by kernel_rfl)
   try replace ht145 := Kq.oF ht145
   refine K.skip (K.kA (K.dA (K.gA (qm ?_))))
   refine qp (K.tA rfl rfl (by omega)) ?_
   refine qa ?_
   refine K.lA ?_
   have hb : tldB iv h off pts.length k (nts.getD k default) = false := tb_3 (by simpa using ht145)
   exact K.rA (L'' := [K.row (.slice Q (tldK iv nts h off pts.length k).length q) 58 5 (tldK iv nts h off pts.length k).length ((tldK iv nts h off pts.length k).flatMap eO), K.blk b7 25 [.int .i64 iv, .slice A pts.length c, .slice Q (tldK iv nts h off pts.length k).length q], K.blk b6 25 [.int .i64 0, .slice none 0 0, .slice none 0 0], K.blk b3 25 [.int .i64 iv, .slice A pts.length c, .slice B nts.length d]]) [.int .i64 ((k : Int) + 1)] ⟨k + 1, Q, q, rfl, by rw [tld_n hb], by omega⟩ (by simp [K.nth, intOf]; omega) (Kq.s1 (Kq.s1 (Kq.s1 Kq.s0))) (by kernel_rfl)
  try replace ht117 := Kq.oF ht117
  have hnx := nx_0 (iv := iv) (h := h) (off := off) (i := k) (x := (nts.getD k default)) (by omega) (by omega) (by omega)
  refine K.skip (K.kA (K.dA (sr (ql (K.jA ag_25 rfl (K.m2) rfl) ?_))))
  refine qn (K.alloc zr_25) fun b13 => ?_
  refine qt (K.vA sz_25 rfl rfl rfl rfl (K.rp0)) ?_
  refine sn (sr (ql (K.jA ag_58 rfl (K.m1) rfl) ?_))
  refine qn (K.buildSlice (bs23 _ _ _ _ _)) fun b142 => ?_
  refine qp (K.aA fo_25_2 rfl) ?_
  refine qt (K.store sz_23 rfl rfl rfl rfl (K.rp1)) ?_
  refine sn (sr (ql (K.jA ag_25 rfl (K.m1) rfl) ?_))
  refine qc (K.nA cal_47 (fun F w hF hw => (by have hL : K.Rd w (some ⟨b142, 0, none⟩) 5 eO [(newX iv h off k (nts.getD k default))] := K.Rd.lit hw (hF _ (K.m0)) (fun _ => rfl) (by decide) (by rw [List.flatMap_cons, List.flatMap_nil, List.append_nil, hnx] <;> rfl); have hg := c47 (iv := iv) (c := c) (d := 1) (nts := [(newX iv h off k (nts.getD k default))]) (hP.pass hw) hL (by omega) (by simp) hcp; rw [chkS_one g] at hg; exact hg))) ?_
  refine sn ?_
  refine K.cond rfl (fun ht145 => ?_) (fun ht145 => ?_)
  ·try replace ht145 := Kq.oT ht145
   refine K.gA (qp (K.aA fo_25_2 rfl) ?_)
   refine ql (K.fA one_23 rfl (K.m4) rfl) ?_
   refine ql (K.jA ag_58 rfl (K.m2) rfl) ?_
   refine qn (K.buildSlice (bs23 _ _ _ _ _)) fun b149 => ?_
   refine K.xB (K.append el_23 rfl rfl (K.PtrL.own' (K.m0)) rfl rfl (by decide) (by omega) (by omega) (fun _ _ => K.rp4)) rfl ?_
   rintro ⟨g150, c150⟩ _
   refine zN ?_
   refine qp (K.aA fo_25_2 rfl) ?_
   refine qt (K.store sz_23 rfl rfl rfl rfl (K.rp5)) ?_
   refine K.lA (K.kA (K.dA (K.gA (qm ?_))))
   refine qp (K.tA rfl rfl (by omega)) ?_
   refine qa ?_
   refine K.lA ?_
   have hb : tldB iv h off pts.length k (nts.getD k default) = true := tb_t (by omega) (fun h3 => by first | exact Decidable.not_not.1 ht116 | omega) (by simpa using ht145)
   have hl2 : (tldK iv nts h off pts.length (k + 1)).length = (tldK iv nts h off pts.length k).length + 1 := by rw [tld_y hb, List.length_append]; rfl
   have hf2 : (tldK iv nts h off pts.length (k + 1)).flatMap eO = (tldK iv nts h off pts.length k).flatMap eO ++ eO (newX iv h off k (nts.getD k default)) := by rw [tld_y hb, List.flatMap_append]; simp
   rw [hnx] at hf2
   refine K.permH (L' := [_, _, _, _, _, _, _, _]) (List.Perm.trans (List.perm_middle (l₁ := [_, _, _, _])) (List.Perm.cons _ (List.Perm.trans (List.perm_middle (l₁ := [_, _, _, _])) (List.Perm.cons _ (List.Perm.trans (List.perm_middle (l₁ := [_, _, _, _])) (List.Perm.cons _ (List.Perm.trans (List.perm_middle (l₁ := [_, _, _, _])) (List.Perm.cons _ Kq.p0)))))))) ?_
   exact K.rA (L'' := [K.row (.slice (some ⟨g150, 0, none⟩) ((tldK iv nts h off pts.length k).length + 1) c150) 58 5 ((tldK iv nts h off pts.length k).length + 1) ((tldK iv nts h off pts.length k).flatMap eO ++ _), K.blk b7 25 [.int .i64 iv, .slice A pts.length c, .slice (some ⟨g150, 0, none⟩) ((tldK iv nts h off pts.length k).length + 1) c150], K.blk b6 25 [.int .i64 0, .slice none 0 0, .slice none 0 0], K.blk b3 25 [.int .i64 iv, .slice A pts.length c, .slice B nts.length d]]) [.int .i64 ((k : Int) + 1)] ⟨k + 1, some ⟨g150, 0, none⟩, c150, rfl, by rw [hl2, hf2] <;> rfl, by omega⟩ (by simp [K.nth, intOf]; omega) (Kq.sc (Kq.sc (Kq.sc (Kq.sc (List.nil_sublist _))))) (by kernel_rfl)
  try replace ht145 := Kq.oF ht145
  refine K.skip (K.kA (K.dA (K.gA (qm ?_))))
  refine qp (K.tA rfl rfl (by omega)) ?_
  refine qa ?_
  refine K.lA ?_
  have hb : tldB iv h off pts.length k (nts.getD k default) = false := tb_3 (by simpa using ht145)
  exact K.rA (L'' := [K.row (.slice Q (tldK iv nts h off pts.length k).length q) 58 5 (tldK iv nts h off pts.length k).length ((tldK iv nts h off pts.length k).flatMap eO), K.blk b7 25 [.int .i64 iv, .slice A pts.length c, .slice Q (tldK iv nts h off pts.length k).length q], K.blk b6 25 [.int .i64 0, .slice none 0 0, .slice none 0 0], K.blk b3 25 [.int .i64 iv, .slice A pts.length c, .slice B nts.length d]]) [.int .i64 ((k : Int) + 1)] ⟨k + 1, Q, q, rfl, by rw [tld_n hb], by omega⟩ (by simp [K.nth, intOf]; omega) (Kq.s1 (Kq.s1 (Kq.s1 Kq.s0))) (by kernel_rfl)
 try replace ht20 := Kq.oF ht20
 refine K.exit (K.pA (K.pA (K.zA (K.dA (sr (ql (K.jA ag_25 rfl (K.m1) rfl) ?_))))))
 refine qt (K.vA sz_25 rfl rfl rfl rfl (K.rp2)) ?_
 refine sn (K.ret ?_)
 refine K.wA (fun w hw => K.res_c rfl rfl (K.run_cellA ag_25 rfl (K.m2) rfl w hw)) ?_
 have e0 : k = nts.length := by omega
 subst e0
 exact K.rets (Q, q) trivial rfl (by simp)

end Go.Proofs.YtnhhfkgldoeifaaGreatDoor.Sh
end
section
namespace Go.Proofs.YtnhhfkgldoeifaaGreatDoor.Sh
open Go
def reS (h : List Int) : List (Int × Int) := h.map fun x => (x, x)
section
variable {l : List (Int × Int)} {h off : List Int} {own : Int} {hb : Bool} {n k i s : Nat} {iv : Int} {pts : List ByteArray} {nts : List NtT} {m : Pn.Mod}
theorem reS_len : (reS h).length = h.length := by unfold reS; simp
theorem reS_at (hk : k < h.length) : (reS h).getD k default = (h.getD k default, h.getD k default) := by
 unfold reS
 rw [List.getD_eq_getElem?_getD, List.getElem?_map, List.getElem?_eq_getElem hk, List.getD_eq_getElem?_getD, List.getElem?_eq_getElem hk]; rfl
theorem grd_at (hk : k < n) : (grdS l own hb n).getD k default = grd1 l own hb k := by
 unfold grdS
 rw [List.getD_eq_getElem?_getD, List.getElem?_map, List.getElem?_range hk]; rfl
theorem grd_out (hk : n ≤ k) : (grdS l own hb n).getD k default = 0 := by
 rw [List.getD_eq_getElem?_getD, List.getElem?_eq_none (by rw [grd_len]; exact hk)]; rfl
theorem grd_bd (hl : 0 < l.length) (hlb : ∀ p ∈ l, (0 ≤ p.1 ∧ p.1 ≤ 9000) ∧ (0 ≤ p.2 ∧ p.2 ≤ 9000)) : ∀ x ∈ grdS l own hb n, 0 ≤ x ∧ x ≤ 500 := fun x hx => by
 unfold grdS at hx
 obtain ⟨k, _, rfl⟩ := List.mem_map.1 hx
 have h1 := hlb _ (K.gt_mem (xs := l) (Nat.mod_lt k hl))
 unfold grd1
 split <;> omega
theorem told_all (g : GoodS iv pts nts) (hl : h.length = pts.length) (hb : ∀ x ∈ h, 0 ≤ x ∧ x ≤ 9000) : (allB iv (tldK iv nts h off pts.length nts.length) 0 (tldK iv nts h off pts.length nts.length).length).2 = true :=
 (told_in (off := off) (ns := nts) (k := nts.length) (i := 0) g.i.1 hl (by have := g.n; omega) hb (by have := g.n; omega)).1
theorem span_bd (hl : l.length = h.length) (hb : ∀ k, k < h.length → 0 ≤ (l.getD k default).1 ∧ (l.getD k default).1 ≤ h.getD k default ∧ h.getD k default ≤ (l.getD k default).2 ∧ (l.getD k default).2 ≤ 9000) : ∀ p ∈ l, (0 ≤ p.1 ∧ p.1 ≤ 9000) ∧ (0 ≤ p.2 ∧ p.2 ≤ 9000) := fun p hp => by
 obtain ⟨k, hk⟩ := List.getElem?_of_mem hp
 have hlt := (List.getElem?_eq_some_iff.1 hk).1
 have h1 := hb k (by omega)
 rw [List.getD_eq_getElem?_getD, hk] at h1
 simp only [Option.getD_some] at h1
 omega
theorem re_bd (hb : ∀ x ∈ h, 0 ≤ x ∧ x ≤ 9000) : ∀ p ∈ reS h, (0 ≤ p.1 ∧ p.1 ≤ 9000) ∧ (0 ≤ p.2 ∧ p.2 ≤ 9000) := fun p hp => by
 unfold reS at hp
 obtain ⟨x, hx, rfl⟩ := List.mem_map.1 hp
 exact ⟨hb x hx, hb x hx⟩
theorem heads (hc : (Pn.chk m).2.2 = 0) (hs : s < m.ss.length) (hi : i < m.ps.length) (hl : l.length = h.length) (h0 : 0 < h.length) (hb : ∀ k, k < h.length → 0 ≤ (l.getD k default).1 ∧ (l.getD k default).1 ≤ h.getD k default ∧ h.getD k default ≤ (l.getD k default).2 ∧ (l.getD k default).2 ≤ 9000) :
  ((i : Int) ∈ Pn.sureL (Pn.hgM m (grdS l (Pn.fldS m i) false m.hs.length)) (s : Int) → (i : Int) ∈ Pn.sureL (Pn.hgM m (grdS (reS h) (Pn.fldS m i) false m.hs.length)) (s : Int)) ∧
  ((i : Int) ∈ Pn.mayL (Pn.hgM m (grdS (reS h) (Pn.fldS m i) false m.hs.length)) (s : Int) → (i : Int) ∈ Pn.mayL (Pn.hgM m (grdS l (Pn.fldS m i) true m.hs.length)) (s : Int)) := by
 have g := Pn.chk_good hc
 have hf := g.fld hi
 have hgl := g.l
 have hlb : ∀ p ∈ l, (0 ≤ p.1 ∧ p.1 ≤ 9000) ∧ (0 ≤ p.2 ∧ p.2 ≤ 9000) := fun p hp => by
  obtain ⟨k, hk⟩ := List.getElem?_of_mem hp
  have hlt := (List.getElem?_eq_some_iff.1 hk).1
  have h1 := hb k (by omega)
  rw [List.getD_eq_getElem?_getD, hk] at h1
  simp only [Option.getD_some] at h1
  omega
 have hrb : ∀ p ∈ reS h, (0 ≤ p.1 ∧ p.1 ≤ 9000) ∧ (0 ≤ p.2 ∧ p.2 ≤ 9000) := fun p hp => by
  obtain ⟨k, hk⟩ := List.getElem?_of_mem hp
  have hlt := (List.getElem?_eq_some_iff.1 hk).1
  rw [reS_len] at hlt
  have h1 := hb k hlt
  have h2 := reS_at hlt
  rw [List.getD_eq_getElem?_getD, hk] at h2
  simp only [Option.getD_some] at h2
  rw [h2]; dsimp only; omega
 have hw : (Pn.fldS m i).toNat < m.hs.length := by omega
 -- one field, of three grounds
 have at1 : ∀ (f : Nat), f < m.hs.length → ∀ b, (decide ((f : Int) = Pn.fldS m i) == b) = true → grd1 l (Pn.fldS m i) b f = (l.getD (f % h.length) default).2 / 20 := fun f _ b e => by rw [grd_y e, hl]
 have at2 : ∀ (f : Nat), f < m.hs.length → ∀ b, (decide ((f : Int) = Pn.fldS m i) == b) = false → grd1 l (Pn.fldS m i) b f = (l.getD (f % h.length) default).1 / 20 := fun f _ b e => by rw [grd_n e, hl]
 have atR : ∀ (f : Nat) b, grd1 (reS h) (Pn.fldS m i) b f = h.getD (f % h.length) default / 20 := fun f b => by
  have h1 := reS_at (h := h) (Nat.mod_lt f h0)
  unfold grd1
  rw [reS_len, h1]
  split <;> rfl
 have own : (decide ((((Pn.fldS m i).toNat : Nat) : Int) = Pn.fldS m i)) = true := decide_eq_true (by omega)
 have oth : ∀ f : Nat, f ≠ (Pn.fldS m i).toNat → (decide ((f : Int) = Pn.fldS m i)) = false := fun f hf2 => decide_eq_false (by omega)
 refine ⟨(Pn.hg_seen hc hs hi grd_len grd_len (grd_bd (by omega) hlb) (grd_bd (by rw [reS_len]; exact h0) hrb) ?_ (fun f hne => ?_)).1, (Pn.hg_seen hc hs hi grd_len grd_len (grd_bd (by rw [reS_len]; exact h0) hrb) (grd_bd (by omega) hlb) ?_ (fun f hne => ?_)).2⟩
 ·rw [grd_at hw, grd_at hw, atR, at2 _ hw _ (by rw [own]; rfl)]
  have := hb _ (Nat.mod_lt (Pn.fldS m i).toNat h0)
  omega
 ·rcases Nat.lt_or_ge f m.hs.length with hlt | hge
  ·rw [grd_at hlt, grd_at hlt, atR, at1 _ hlt _ (by rw [oth f hne]; rfl)]
   have := hb _ (Nat.mod_lt f h0)
   omega
  ·rw [grd_out hge, grd_out hge]; exact Int.le_refl _
 ·rw [grd_at hw, grd_at hw, atR, at1 _ hw _ (by rw [own]; rfl)]
  have := hb _ (Nat.mod_lt (Pn.fldS m i).toNat h0)
  omega
 ·rcases Nat.lt_or_ge f m.hs.length with hlt | hge
  ·rw [grd_at hlt, grd_at hlt, atR, at2 _ hlt _ (by rw [oth f hne]; rfl)]
   have := hb _ (Nat.mod_lt f h0)
   omega
  ·rw [grd_out hge, grd_out hge]; exact Int.le_refl _
end
end Go.Proofs.YtnhhfkgldoeifaaGreatDoor.Sh
end
section
namespace Go.Proofs.YtnhhfkgldoeifaaGreatDoor.Sh
open Go.RowKit Go
open Go.K (setd setn ev nth over cl eI eP eT setM setF)
attribute [local irreducible] K.blk K.row

theorem bo_4 : K.boT Tryz.prog 4 = true := by kernel_rfl

set_option maxRecDepth 100000 in
set_option maxHeartbeats 4000000 in
theorem c12 {W D own : Int} {np ns n d e : Nat} {hb : Bool} {l : List (Int × Int)} {A B C X : Option Addr} {na a cx : Nat} {w : World} (hX : K.Rd w X 2 K.eP l) (hl0 : 0 < l.length) (hl1 : l.length ≤ 1000) (hlb : ∀ p ∈ l, (0 ≤ p.1 ∧ p.1 ≤ 9000) ∧ (0 ≤ p.2 ∧ p.2 ≤ 9000)) (hwd : W * D = (n : Int)) (hn : n ≤ 1000) :
  Calls Tryz.prog 12 [.agg #[.int .i64 W, .int .i64 D, .slice A na a, .slice B np d, .slice C ns e], .slice X l.length cx, .int .i64 own, .bool hb].toArray w (K.Ret (fun _ : Option Addr × Nat => True) (fun r => .agg #[.int .i64 W, .int .i64 D, .slice r.1 (grdS l own hb n).length r.2, .slice B np d, .slice C ns e]) (fun r => [K.row (.slice r.1 (grdS l own hb n).length r.2) 3 1 (grdS l own hb n).length ((grdS l own hb n).flatMap K.eI)]) w) := by
 refine K.enter (args := [.agg #[.int .i64 W, .int .i64 D, .slice A na a, .slice B np d, .slice C ns e], .slice X l.length cx, .int .i64 own, .bool hb]) Tryz.func12 rfl (n := 46) rfl ?_
 refine zR ?_
 refine sr ?_
 refine qn (K.box) fun b4 => ?_
 refine qn (K.alloc zr_30) fun b8 => ?_
 refine sn (sr (qp (K.aA fo_30_2 rfl) ?_))
 refine K.jC (e := 3) (size := 1) ?_
 refine qt (K.store sz_26 rfl rfl rfl rfl (K.rp2)) ?_
 refine sn (K.seq (sr (qa ?_)))
 refine sn (K.block ?_)
 refine K.loopW [9] [10, 12, 13, 14, 15, 16, 17, 18, 19, 20, 21, 22, 23, 24, 25, 26, 27, 28, 29, 30, 31, 32, 33, 34, 35, 36, 37, 38, 39, 40, 41, 42, 43, 44, 45, 46, 47, 48] (fun vi L => ∃ (k : Nat) (Q : Option Addr) (q : Nat), vi = [.int .i64 (k : Int)] ∧ L = [K.row (.slice Q (grdS l own hb k).length q) 3 1 (grdS l own hb k).length ((grdS l own hb k).flatMap K.eI), K.blk b8 30 [.int .i64 0, .int .i64 0, .slice none 0 0, .slice none 0 0, .slice none 0 0], K.blk b4 30 [.int .i64 W, .int .i64 D, .slice Q (grdS l own hb k).length q, .slice B np d, .slice C ns e]] ∧ k ≤ n) (fun vi => n - (intOf (K.nth vi 0)).toNat) ?_ ?_
 ·exact ⟨0, none, 0, rfl, rfl, Nat.zero_le _⟩
 intro vi vr L hJ
 obtain ⟨k, Q, q, rfl, rfl, hkn⟩ := hJ
 refine zY ?_
 refine K.seq (sr (qm ?_))
 refine qp (K.aA fo_30_0 rfl) ?_
 refine ql (K.fA one_3 rfl (K.m2) rfl) ?_
 refine qp (K.aA fo_30_1 rfl) ?_
 refine ql (K.fA one_3 rfl (K.m2) rfl) ?_
 refine qp (K.Pure.eq (K.mul_i64 rfl rfl (by omega)) (show _ = Value.int .i64 (n : Int) from by rw [hwd])) ?_
 refine qp (K.lss rfl rfl) ?_
 refine sn ?_
 refine K.cond rfl (fun ht18 => ?_) (fun ht18 => ?_)
 ·try replace ht18 := Kq.oT ht18
  have hk : k < n := by omega
  have hlt := Nat.mod_lt k hl0
  have hb2 := hlb _ (K.gt_mem hlt)
  have hq1 := hb2.1.1
  have hq2 := hb2.2.1
  have hgl := @grd_len l own hb k
  refine K.skip (K.dA (K.seq (K.block (sr ?_))))
  iterate 3 refine qm ?_
  refine qp (K.aB sl_41 rfl) ?_
  refine qp (K.Pure.eq (K.rem_i64 rfl rfl (by omega) (by omega)) (show _ = Value.int .i64 ((k % l.length : Nat) : Int) from by rw [Int.natCast_emod])) ?_
  refine K.vB (M := []) (k % l.length) hX.sl sl_41 rfl rfl rfl (by omega) rfl ?_
  intro p26 hp26
  refine zN ?_
  refine ql (K.uB kC rfl (hp26.any) rfl) ?_
  refine qn (K.alloc zr_46) fun b10 => ?_
  refine qt (K.vA sz_46 rfl rfl rfl rfl (K.rp0)) ?_
  refine sn (sr ?_)
  iterate 2 refine qm ?_
  refine qp (K.eql rfl rfl) ?_
  refine qm ?_
  refine qp (K.eql_bb bo_4 rfl rfl) ?_
  refine sn ?_
  refine K.cond rfl (fun ht32 => ?_) (fun ht32 => ?_)
  ·try replace ht32 := Kq.oT ht32
   refine K.gA (qp (K.aA fo_30_2 rfl) ?_)
   refine ql (K.fA gC rfl (K.m3) rfl) ?_
   refine qp (K.aA fo_46_1 rfl) ?_
   refine ql (K.fA one_3 rfl (K.m0) rfl) ?_
   refine qp (K.quo_i64 rfl rfl (by omega) (by omega) (by omega)) ?_
   refine qn (K.buildSlice (bsI _)) fun b38 => ?_
   refine K.xB (K.append el_26 rfl rfl (K.PtrL.own' (K.m0)) rfl rfl (by decide) (by rw [grd_len]; omega) (by rw [grd_len]; omega) (fun _ _ => K.rp2)) rfl ?_
   rintro ⟨g39, c39⟩ _
   refine zN ?_
   refine qp (K.aA fo_30_2 rfl) ?_
   refine qt (K.store sz_26 rfl rfl rfl rfl (K.rp4)) ?_
   refine K.lA (K.kA (K.dA (K.gA (qm ?_))))
   refine qp (K.tA rfl rfl (by omega)) ?_
   refine qa ?_
   refine K.lA ?_
   have hv : grd1 l own hb k = (l.getD (k % l.length) default).2 / 20 := grd_y (by simpa using ht32)
   have hl2 : (grdS l own hb (k + 1)).length = (grdS l own hb k).length + 1 := by rw [grd_s, List.length_append]; rfl
   have hf2 : (grdS l own hb (k + 1)).flatMap K.eI = (grdS l own hb k).flatMap K.eI ++ [.int .i64 ((l.getD (k % l.length) default).2 / 20)] := by rw [grd_s, List.flatMap_append, hv]; rfl
   refine K.permH (L' := [_, _, _, _, _]) (List.Perm.trans (List.perm_middle (l₁ := [_, _])) (List.Perm.cons _ (List.Perm.trans (List.perm_middle (l₁ := [_, _])) (List.Perm.cons _ (List.Perm.trans (List.perm_middle (l₁ := [_, _])) (List.Perm.cons _ Kq.p0)))))) ?_
   exact K.rA (L'' := [K.row (.slice (some ⟨g39, 0, none⟩) ((grdS l own hb k).length + 1) c39) 3 1 ((grdS l own hb k).length + 1) ((grdS l own hb k).flatMap K.eI ++ [.int .i64 ((l.getD (k % l.length) default).2 / 20)]), K.blk b8 30 [.int .i64 0, .int .i64 0, .slice none 0 0, .slice none 0 0, .slice none 0 0], K.blk b4 30 [.int .i64 W, .int .i64 D, .slice (some ⟨g39, 0, none⟩) ((grdS l own hb k).length + 1) c39, .slice B np d, .slice C ns e]]) [.int .i64 ((k : Int) + 1)] ⟨k + 1, some ⟨g39, 0, none⟩, c39, rfl, by rw [hl2, hf2] <;> rfl, by omega⟩ (by simp [K.nth, intOf]; omega) (Kq.sc (Kq.sc (Kq.sc (List.nil_sublist _)))) (by kernel_rfl)
  try replace ht32 := Kq.oF ht32
  refine K.gA (qp (K.aA fo_30_2 rfl) ?_)
  refine ql (K.fA gC rfl (K.m3) rfl) ?_
  refine qp (K.aA fo_46_0 rfl) ?_
  refine ql (K.fA one_3 rfl (K.m0) rfl) ?_
  refine qp (K.quo_i64 rfl rfl (by omega) (by omega) (by omega)) ?_
  refine qn (K.buildSlice (bsI _)) fun b46 => ?_
  refine K.xB (K.append el_26 rfl rfl (K.PtrL.own' (K.m0)) rfl rfl (by decide) (by rw [grd_len]; omega) (by rw [grd_len]; omega) (fun _ _ => K.rp2)) rfl ?_
  rintro ⟨g47, c47⟩ _
  refine zN ?_
  refine qp (K.aA fo_30_2 rfl) ?_
  refine qt (K.store sz_26 rfl rfl rfl rfl (K.rp4)) ?_
  refine K.lA (K.kA (K.dA (K.gA (qm ?_))))
  refine qp (K.tA rfl rfl (by omega)) ?_
  refine qa ?_
  refine K.lA ?_
  have hv : grd1 l own hb k = (l.getD (k % l.length) default).1 / 20 := grd_n (by simpa using ht32)
  have hl2 : (grdS l own hb (k + 1)).length = (grdS l own hb k).length + 1 := by rw [grd_s, List.length_append]; rfl
  have hf2 : (grdS l own hb (k + 1)).flatMap K.eI = (grdS l own hb k).flatMap K.eI ++ [.int .i64 ((l.getD (k % l.length) default).1 / 20)] := by rw [grd_s, List.flatMap_append, hv]; rfl
  refine K.permH (L' := [_, _, _, _, _]) (List.Perm.trans (List.perm_middle (l₁ := [_, _])) (List.Perm.cons _ (List.Perm.trans (List.perm_middle (l₁ := [_, _])) (List.Perm.cons _ (List.Perm.trans (List.perm_middle (l₁ := [_, _])) (List.Perm.cons _ Kq.p0)))))) ?_
  exact K.rA (L'' := [K.row (.slice (some ⟨g47, 0, none⟩) ((grdS l own hb k).length + 1) c47) 3 1 ((grdS l own hb k).length + 1) ((grdS l own hb k).flatMap K.eI ++ [.int .i64 ((l.getD (k % l.length) default).1 / 20)]), K.blk b8 30 [.int .i64 0, .int .i64 0, .slice none 0 0, .slice none 0 0, .slice none 0 0], K.blk b4 30 [.int .i64 W, .int .i64 D, .slice (some ⟨g47, 0, none⟩) ((grdS l own hb k).length + 1) c47, .slice B np d, .slice C ns e]]) [.int .i64 ((k : Int) + 1)] ⟨k + 1, some ⟨g47, 0, none⟩, c47, rfl, by rw [hl2, hf2] <;> rfl, by omega⟩ (by simp [K.nth, intOf]; omega) (Kq.sc (Kq.sc (Kq.sc (List.nil_sublist _)))) (by kernel_rfl)
 try replace ht18 := Kq.oF ht18
 refine K.exit (K.pA (K.pA (K.zA (K.dA (sr (ql (K.jA cC rfl (K.m2) rfl) ?_))))))
 refine qt (K.vA sz_30 rfl rfl rfl rfl (K.rp1)) ?_
 refine sn (K.ret ?_)
 refine K.wA (fun w hw => K.res_c rfl rfl (K.run_cellA cC rfl (K.m1) rfl w hw)) ?_
 have e0 : k = n := by omega
 subst e0
 exact K.rets (Q, q) trivial rfl (by simp)

end Go.Proofs.YtnhhfkgldoeifaaGreatDoor.Sh
end
section
namespace Go.Proofs.YtnhhfkgldoeifaaGreatDoor.Sh
open Go
structure NtB (iv : Int) (n : Nat) (x : NtT) : Prop where
 k : 1 ≤ x.kd ∧ x.kd ≤ 4
 a : 0 ≤ x.a ∧ x.a ≤ (n : Int) - 1
 b : 0 ≤ x.b ∧ x.b ≤ (n : Int) - 1
 two : x.kd = 3 ∨ x.kd = 4 → x.a ≠ x.b
 one : ¬ (x.kd = 3 ∨ x.kd = 4) → x.b = 0
 r1 : x.kd = 1 → ((0 ≤ x.lo ∧ x.lo ≤ 9000) ∧ (0 ≤ x.hi ∧ x.hi ≤ 9000)) ∧ x.lo ≤ x.hi
 r2 : x.kd = 2 → ((0 ≤ x.lo ∧ x.lo ≤ 9000 / iv) ∧ (0 ≤ x.hi ∧ x.hi ≤ 9000 / iv)) ∧ x.lo + 1 ≤ x.hi
 r3 : x.kd = 3 → x.lo = 0 ∧ x.hi = 0
 r4 : x.kd = 4 → ((-9000 ≤ x.lo ∧ x.lo ≤ 9000) ∧ (-9000 ≤ x.hi ∧ x.hi ≤ 9000)) ∧ x.lo ≤ x.hi
theorem nt_b {iv : Int} {n : Nat} {x : NtT} (e : ntE iv n x = 0) : NtB iv n x := by
 unfold ntE at e
 split at e
 ·simp at e
 ·rename_i h1
  split at e
  ·simp at e
  ·rename_i h2
   split at e
   ·simp at e
   ·rename_i h3
    have h1 := Decidable.not_not.1 h1
    have h2 := Decidable.not_not.1 h2
    split at e
    ·have := rng_0 e
     refine ⟨h1, h2.1, h2.2, ?_, ?_, ?_, ?_, ?_, ?_⟩ <;> omega
    ·split at e
     ·have := rng_0 e
      refine ⟨h1, h2.1, h2.2, ?_, ?_, ?_, ?_, ?_, ?_⟩ <;> omega
     ·split at e
      ·have := rng_0 e
       refine ⟨h1, h2.1, h2.2, ?_, ?_, ?_, ?_, ?_, ?_⟩ <;> omega
      ·split at e
       ·simp at e
       ·rename_i h4
        have := rng_0 e
        refine ⟨h1, h2.1, h2.2, by omega, by omega, by omega, fun _ => ⟨this.1, ?_⟩, by omega, by omega⟩
        rcases Classical.em (x.lo = x.hi) with h5 | h5
        ·exact absurd ⟨e, h5⟩ h4
        ·omega
end Go.Proofs.YtnhhfkgldoeifaaGreatDoor.Sh
end
section
namespace Go.Proofs.YtnhhfkgldoeifaaGreatDoor.Sh
open Go
def kvN (pts : List ByteArray) (k : Nat) : List (Value × Int) := (pts.take k).map fun s => (Value.string s, (1 : Int))
theorem kvN_s {pts : List ByteArray} {k : Nat} (h : k < pts.length) : kvN pts (k + 1) = kvN pts k ++ [(Value.string (pts.getD k default), (1 : Int))] := by
 unfold kvN
 rw [List.take_add_one, List.map_append, List.getElem?_eq_getElem h, List.getD_eq_getElem?_getD, List.getElem?_eq_getElem h]; rfl
theorem nm_sz {s : ByteArray} (h : Pn.nameB s = true) : s.size ≤ 16 := by
 unfold Pn.nameB at h
 rw [Bool.and_eq_true] at h
 exact (of_decide_eq_true h.1).2
theorem fsh_ok {pts : List ByteArray} {k : Nat} (h : fshE pts k = 0) : Pn.nameB (pts.getD k default) = true ∧ ∀ p ∈ kvN pts k, p.1 ≠ Value.string (pts.getD k default) := by
 unfold fshE Pn.freshE at h
 split at h
 ·simp at h
 ·rename_i h1
  split at h
  ·simp at h
  ·rename_i h2
   refine ⟨by simpa using h1, fun p hp e => h2 ?_⟩
   unfold kvN at hp
   obtain ⟨s, hs, rfl⟩ := List.mem_map.1 hp
   injection e with e
   exact List.any_eq_true.2 ⟨s, hs, by unfold Pn.nmEq; rw [e]; simp⟩
theorem kvN_sz {pts : List ByteArray} {k : Nat} (hk : k ≤ pts.length) (hall : ∀ j, j < pts.length → fshE pts j = 0) : ∀ p ∈ kvN pts k, ∃ s : ByteArray, p.1 = Value.string s ∧ s.size ≤ 16 := fun p hp => by
 unfold kvN at hp
 obtain ⟨s, hs, rfl⟩ := List.mem_map.1 hp
 obtain ⟨j, hj, e⟩ := List.mem_take_iff_getElem.1 hs
 refine ⟨s, rfl, ?_⟩
 have h1 := (fsh_ok (hall j (by omega))).1
 rw [List.getD_eq_getElem?_getD, List.getElem?_eq_getElem (by omega : j < pts.length)] at h1
 have e2 : (some pts[j]).getD default = s := e
 rw [e2] at h1
 exact nm_sz h1
theorem put_new {kvs kvs' : List (Value × Int)} {key : Value} {v : Int} (hne : ∀ p ∈ kvs, p.1 ≠ key) (h : K.PutQ kvs key v kvs') : kvs' = kvs ++ [(key, v)] := by
 rcases h with ⟨_, h⟩ | ⟨j, n, h, _⟩
 ·exact h
 ·exact absurd rfl (hne _ (List.mem_of_getElem? h))
theorem look_0 {kvs : List (Value × Int)} {key : Value} {n : Int} (hne : ∀ p ∈ kvs, p.1 ≠ key) (h : (n = 0 ∧ ∀ p ∈ kvs, p.1 ≠ key) ∨ (key, n) ∈ kvs) : n = 0 := by
 rcases h with h | h
 ·exact h.1
 ·exact absurd rfl (hne _ h)
theorem look_1 {kvs : List (Value × Int)} {key : Value} {n v : Int} (hne : ∀ p ∈ kvs, p.1 ≠ key) (h : (n = 0 ∧ ∀ p ∈ kvs ++ [(key, v)], p.1 ≠ key) ∨ (key, n) ∈ kvs ++ [(key, v)]) : n = v := by
 rcases h with h | h
 ·exact absurd rfl (h.2 (key, v) (by simp))
 ·rcases List.mem_append.1 h with h | h
  ·exact absurd rfl (hne _ h)
  ·simp at h; exact h
end Go.Proofs.YtnhhfkgldoeifaaGreatDoor.Sh
end
section
namespace Go.Proofs.YtnhhfkgldoeifaaGreatDoor.Sh
open Go.RowKit Go
open Go.K (setd setn ev nth over cl eI eP eT setM setF)
attribute [local irreducible] K.blk K.row

set_option maxRecDepth 100000 in
theorem c96 {n lo hi : Int} {p q : Addr} {w : World} (hp : w.cell? p = some (.int .i64 lo)) (hq : w.cell? q = some (.int .i64 hi)) :
  Calls Tryz.prog 96 [.int .i64 n, .pointer (some p), .pointer (some q)].toArray w (K.Gives (.bool (decide (n < lo) || decide (n > hi))) w) := by
 refine K.enter (args := [.int .i64 n, .pointer (some p), .pointer (some q)]) Tryz.func96 rfl (n := 10) rfl ?_
 refine zR ?_
 refine sr (qa ?_)
 refine sn (sr (qm ?_))
 refine ql (K.load1 one_3 rfl ((K.PtrL.cell1 hp).any)) ?_
 refine qp (K.lss rfl rfl) ?_
 refine qm ?_
 refine K.split 8 rfl (fun hg8 => ?_) (fun hg8 => ?_)
 ·try replace hg8 := Kq.oT hg8
  iterate 3 refine qs ?_
  refine qp (K.sA rfl) ?_
  refine qa ?_
  refine sn (K.ret (et ?_))
  exact K.pB rfl (by simp [hg8])
 try replace hg8 := Kq.oF hg8
 refine qm ?_
 refine ql (K.load1 one_3 rfl ((K.PtrL.cell1 hq).any)) ?_
 refine qp (K.gtr rfl rfl) ?_
 refine qp (K.dB rfl) ?_
 refine qa ?_
 refine sn (K.ret (et ?_))
 exact K.pB rfl (by simp [hg8])

set_option maxRecDepth 100000 in
theorem c59 {lo hi : Int} {A : Option Addr} {c : Nat} {xs : List Int} {w : World} (hR : K.Rd w A 1 K.eI xs) (hn : xs.length ≤ 4611686018427387904) :
  Calls Tryz.prog 59 [.int .i64 lo, .int .i64 hi, .slice A xs.length c].toArray w (K.Gives (.bool (Pn.outB lo hi xs)) w) := by
 refine K.enter (args := [.int .i64 lo, .int .i64 hi, .slice A xs.length c]) Tryz.func59 rfl (n := 7) rfl ?_
 refine zR ?_
 refine sr ?_
 refine qn (K.box) fun b3 => ?_
 refine qn (K.box) fun b4 => ?_
 refine qa ?_
 refine sn (sr (qm ?_))
 refine K.mA (K.mkFunc) rfl ?_
 refine zN ?_
 refine qc (K.nA cal_87 (fun F w hF hw => Pn.c89 (cap := [.pointer (some ⟨b3, 0, none⟩), .pointer (some ⟨b4, 0, none⟩)]) (hR.pass hw) hn cal_96 (fun x _ w1 hb => c96 (K.cell_later hw (hF _ (K.m1)) rfl hb) (K.cell_later hw (hF _ (K.m0)) rfl hb)))) ?_
 refine qa ?_
 refine sn (K.ret (et ?_))
 exact K.gives rfl

theorem c59_1f {lo hi x : Int} {w0 w : World} {F : List K.Chunk} {b : Nat} (h0 : lo ≤ x ∧ x ≤ hi) (hw : K.St w0 F w) (hm : K.blk b 3 [.int .i64 x] ∈ F) :
  Calls Tryz.prog 59 [.int .i64 lo, .int .i64 hi, .slice (some ⟨b, 0, none⟩) 1 1].toArray w (K.Gives (.bool false) w) := by
 have h := c59 (lo := lo) (hi := hi) (c := 1) (xs := [x]) (K.Rd.lit hw hm (fun _ => rfl) (by decide) rfl) (by simp)
 have e : Pn.outB lo hi [x] = false := by
  simp [Pn.outB]
  try omega
 rw [e] at h
 exact h
theorem c59_2f {lo hi x y : Int} {w0 w : World} {F : List K.Chunk} {b : Nat} (h0 : (lo ≤ x ∧ x ≤ hi) ∧ (lo ≤ y ∧ y ≤ hi)) (hw : K.St w0 F w) (hm : K.blk b 3 [.int .i64 x, .int .i64 y] ∈ F) :
  Calls Tryz.prog 59 [.int .i64 lo, .int .i64 hi, .slice (some ⟨b, 0, none⟩) 2 2].toArray w (K.Gives (.bool false) w) := by
 have h := c59 (lo := lo) (hi := hi) (c := 2) (xs := [x, y]) (K.Rd.lit hw hm (fun _ => rfl) (by decide) rfl) (by simp)
 have e : Pn.outB lo hi [x, y] = false := by
  simp [Pn.outB]; omega
 rw [e] at h
 exact h
theorem bs26 (a b : Int) : K.Bs Tryz.prog 26 2 [(0, .int .i64 a), (1, .int .i64 b)] 3 [.int .i64 a, .int .i64 b] := fun w => by kernel_rfl
theorem bl183 (k a b l h : Int) : K.Bl Tryz.prog 183 [(0, .agg #[.int .i64 k, .int .i64 a, .int .i64 b, .int .i64 l, .int .i64 h])] (.agg #[.int .i64 k, .int .i64 a, .int .i64 b, .int .i64 l, .int .i64 h]) := fun w => by kernel_rfl
theorem bl184 (k a b l h : Int) : K.Bl Tryz.prog 184 [(0, .agg #[.int .i64 k, .int .i64 a, .int .i64 b, .int .i64 l, .int .i64 h])] (.agg #[.int .i64 k, .int .i64 a, .int .i64 b, .int .i64 l, .int .i64 h]) := fun w => by kernel_rfl
theorem bl185 (k a b l h : Int) : K.Bl Tryz.prog 185 [(0, .agg #[.int .i64 k, .int .i64 a, .int .i64 b, .int .i64 l, .int .i64 h])] (.agg #[.int .i64 k, .int .i64 a, .int .i64 b, .int .i64 l, .int .i64 h]) := fun w => by kernel_rfl
theorem bl186 (k a b l h : Int) : K.Bl Tryz.prog 186 [(0, .agg #[.int .i64 k, .int .i64 a, .int .i64 b, .int .i64 l, .int .i64 h])] (.agg #[.int .i64 k, .int .i64 a, .int .i64 b, .int .i64 l, .int .i64 h]) := fun w => by kernel_rfl


set_option maxRecDepth 100000 in
theorem c189 {k a b l h : Int} (w : World) :
  Calls Tryz.prog 189 [.agg #[.int .i64 k, .int .i64 a, .int .i64 b, .int .i64 l, .int .i64 h]].toArray w (K.Gives (.int .i64 1) w) := by
 refine K.enter (args := [.agg #[.int .i64 k, .int .i64 a, .int .i64 b, .int .i64 l, .int .i64 h]]) Tryz.func189 rfl (n := 2) rfl ?_
 refine zR ?_
 refine sr ?_
 refine qn (K.box) fun b1 => ?_
 refine qa ?_
 refine sn (sr (qa ?_))
 refine sn (K.ret (et ?_))
 exact K.gives rfl

set_option maxRecDepth 100000 in
theorem c190 {k a b l h : Int} (w : World) :
  Calls Tryz.prog 190 [.agg #[.int .i64 k, .int .i64 a, .int .i64 b, .int .i64 l, .int .i64 h]].toArray w (K.Gives (.int .i64 1) w) := by
 refine K.enter (args := [.agg #[.int .i64 k, .int .i64 a, .int .i64 b, .int .i64 l, .int .i64 h]]) Tryz.func190 rfl (n := 2) rfl ?_
 refine zR ?_
 refine sr ?_
 refine qn (K.box) fun b1 => ?_
 refine qa ?_
 refine sn (sr (qa ?_))
 refine sn (K.ret (et ?_))
 exact K.gives rfl

set_option maxRecDepth 100000 in
theorem c191 {k a b l h : Int} (w : World) :
  Calls Tryz.prog 191 [.agg #[.int .i64 k, .int .i64 a, .int .i64 b, .int .i64 l, .int .i64 h]].toArray w (K.Gives (.int .i64 2) w) := by
 refine K.enter (args := [.agg #[.int .i64 k, .int .i64 a, .int .i64 b, .int .i64 l, .int .i64 h]]) Tryz.func191 rfl (n := 2) rfl ?_
 refine zR ?_
 refine sr ?_
 refine qn (K.box) fun b1 => ?_
 refine qa ?_
 refine sn (sr (qa ?_))
 refine sn (K.ret (et ?_))
 exact K.gives rfl

set_option maxRecDepth 100000 in
theorem c192 {k a b l h : Int} (w : World) :
  Calls Tryz.prog 192 [.agg #[.int .i64 k, .int .i64 a, .int .i64 b, .int .i64 l, .int .i64 h]].toArray w (K.Gives (.int .i64 2) w) := by
 refine K.enter (args := [.agg #[.int .i64 k, .int .i64 a, .int .i64 b, .int .i64 l, .int .i64 h]]) Tryz.func192 rfl (n := 2) rfl ?_
 refine zR ?_
 refine sr ?_
 refine qn (K.box) fun b1 => ?_
 refine qa ?_
 refine sn (sr (qa ?_))
 refine sn (K.ret (et ?_))
 exact K.gives rfl

set_option maxRecDepth 100000 in
theorem c103_1 {x : NtT} (hk : x.kd = 1) (w : World) :
  Calls Tryz.prog 103 [.agg #[.int .i64 x.kd, .int .i64 x.a, .int .i64 x.b, .int .i64 x.lo, .int .i64 x.hi]].toArray w (K.Gives (.iface 183 (.agg #[.int .i64 x.kd, .int .i64 x.a, .int .i64 x.b, .int .i64 x.lo, .int .i64 x.hi])) w) := by
 refine K.enter (args := [.agg #[.int .i64 x.kd, .int .i64 x.a, .int .i64 x.b, .int .i64 x.lo, .int .i64 x.hi]]) Tryz.func103 rfl (n := 24) rfl ?_
 refine zR ?_
 refine sr ?_
 refine qn (K.box) fun b1 => ?_
 refine qa ?_
 refine sn (K.seq (sr (qp (K.aA fo_58_0 rfl) ?_)))
 refine ql (K.fA one_3 rfl (K.m0) rfl) ?_
 refine sn (K.block (sr (qp (K.Pure.eq (K.eql rfl rfl) (show _ = Value.bool true from congrArg Value.bool (decide_eq_true hk))) ?_)))
 refine qa ?_
 refine sn (K.yA rfl ?_)
 refine sr (ql (K.jA ag_58 rfl (K.m0) rfl) ?_)
 refine K.mA (K.build (bl183 _ _ _ _ _)) rfl ?_
 refine zN ?_
 refine K.mA (K.mkIface con_183 rfl) rfl ?_
 refine zN ?_
 refine qa ?_
 refine sn (K.ret (K.qA (K.iA (et ?_))))
 exact K.gives rfl

set_option maxRecDepth 100000 in
theorem c103_2 {x : NtT} (hk : x.kd = 2) (w : World) :
  Calls Tryz.prog 103 [.agg #[.int .i64 x.kd, .int .i64 x.a, .int .i64 x.b, .int .i64 x.lo, .int .i64 x.hi]].toArray w (K.Gives (.iface 184 (.agg #[.int .i64 x.kd, .int .i64 x.a, .int .i64 x.b, .int .i64 x.lo, .int .i64 x.hi])) w) := by
 refine K.enter (args := [.agg #[.int .i64 x.kd, .int .i64 x.a, .int .i64 x.b, .int .i64 x.lo, .int .i64 x.hi]]) Tryz.func103 rfl (n := 24) rfl ?_
 refine zR ?_
 refine sr ?_
 refine qn (K.box) fun b1 => ?_
 refine qa ?_
 refine sn (K.seq (sr (qp (K.aA fo_58_0 rfl) ?_)))
 refine ql (K.fA one_3 rfl (K.m0) rfl) ?_
 refine sn (K.block (sr (qp (K.Pure.eq (K.eql rfl rfl) (show _ = Value.bool false from congrArg Value.bool (decide_eq_false (by omega)))) ?_)))
 refine qa ?_
 refine sn (K.oA rfl ?_)
 refine sr (qp (K.Pure.eq (K.eql rfl rfl) (show _ = Value.bool true from congrArg Value.bool (decide_eq_true hk))) ?_)
 refine qa ?_
 refine sn (K.yA rfl ?_)
 refine sr (ql (K.jA ag_58 rfl (K.m0) rfl) ?_)
 refine K.mA (K.build (bl184 _ _ _ _ _)) rfl ?_
 refine zN ?_
 refine K.mA (K.mkIface con_184 rfl) rfl ?_
 refine zN ?_
 refine qa ?_
 refine sn (K.ret (K.qA (K.iA (et ?_))))
 exact K.gives rfl

set_option maxRecDepth 100000 in
theorem c103_3 {x : NtT} (hk : x.kd = 3) (w : World) :
  Calls Tryz.prog 103 [.agg #[.int .i64 x.kd, .int .i64 x.a, .int .i64 x.b, .int .i64 x.lo, .int .i64 x.hi]].toArray w (K.Gives (.iface 185 (.agg #[.int .i64 x.kd, .int .i64 x.a, .int .i64 x.b, .int .i64 x.lo, .int .i64 x.hi])) w) := by
 refine K.enter (args := [.agg #[.int .i64 x.kd, .int .i64 x.a, .int .i64 x.b, .int .i64 x.lo, .int .i64 x.hi]]) Tryz.func103 rfl (n := 24) rfl ?_
 refine zR ?_
 refine sr ?_
 refine qn (K.box) fun b1 => ?_
 refine qa ?_
 refine sn (K.seq (sr (qp (K.aA fo_58_0 rfl) ?_)))
 refine ql (K.fA one_3 rfl (K.m0) rfl) ?_
 refine sn (K.block (sr (qp (K.Pure.eq (K.eql rfl rfl) (show _ = Value.bool false from congrArg Value.bool (decide_eq_false (by omega)))) ?_)))
 refine qa ?_
 refine sn (K.oA rfl ?_)
 refine sr (qp (K.Pure.eq (K.eql rfl rfl) (show _ = Value.bool false from congrArg Value.bool (decide_eq_false (by omega)))) ?_)
 refine qa ?_
 refine sn (K.oA rfl ?_)
 refine sr (qp (K.Pure.eq (K.eql rfl rfl) (show _ = Value.bool true from congrArg Value.bool (decide_eq_true hk))) ?_)
 refine qa ?_
 refine sn (K.yA rfl ?_)
 refine sr (ql (K.jA ag_58 rfl (K.m0) rfl) ?_)
 refine K.mA (K.build (bl185 _ _ _ _ _)) rfl ?_
 refine zN ?_
 refine K.mA (K.mkIface con_185 rfl) rfl ?_
 refine zN ?_
 refine qa ?_
 refine sn (K.ret (K.qA (K.iA (et ?_))))
 exact K.gives rfl

set_option maxRecDepth 100000 in
theorem c103_4 {x : NtT} (hk : x.kd = 4) (w : World) :
  Calls Tryz.prog 103 [.agg #[.int .i64 x.kd, .int .i64 x.a, .int .i64 x.b, .int .i64 x.lo, .int .i64 x.hi]].toArray w (K.Gives (.iface 186 (.agg #[.int .i64 x.kd, .int .i64 x.a, .int .i64 x.b, .int .i64 x.lo, .int .i64 x.hi])) w) := by
 refine K.enter (args := [.agg #[.int .i64 x.kd, .int .i64 x.a, .int .i64 x.b, .int .i64 x.lo, .int .i64 x.hi]]) Tryz.func103 rfl (n := 24) rfl ?_
 refine zR ?_
 refine sr ?_
 refine qn (K.box) fun b1 => ?_
 refine qa ?_
 refine sn (K.seq (sr (qp (K.aA fo_58_0 rfl) ?_)))
 refine ql (K.fA one_3 rfl (K.m0) rfl) ?_
 refine sn (K.block (sr (qp (K.Pure.eq (K.eql rfl rfl) (show _ = Value.bool false from congrArg Value.bool (decide_eq_false (by omega)))) ?_)))
 refine qa ?_
 refine sn (K.oA rfl ?_)
 refine sr (qp (K.Pure.eq (K.eql rfl rfl) (show _ = Value.bool false from congrArg Value.bool (decide_eq_false (by omega)))) ?_)
 refine qa ?_
 refine sn (K.oA rfl ?_)
 refine sr (qp (K.Pure.eq (K.eql rfl rfl) (show _ = Value.bool false from congrArg Value.bool (decide_eq_false (by omega)))) ?_)
 refine qa ?_
 refine sn (K.oA rfl ?_)
 refine sr (qp (K.Pure.eq (K.eql rfl rfl) (show _ = Value.bool true from congrArg Value.bool (decide_eq_true hk))) ?_)
 refine qa ?_
 refine sn (K.yA rfl ?_)
 refine sr (ql (K.jA ag_58 rfl (K.m0) rfl) ?_)
 refine K.mA (K.build (bl186 _ _ _ _ _)) rfl ?_
 refine zN ?_
 refine K.mA (K.mkIface con_186 rfl) rfl ?_
 refine zN ?_
 refine qa ?_
 refine sn (K.ret (K.qA (K.iA (et ?_))))
 exact K.gives rfl

set_option maxRecDepth 100000 in
theorem c95_1 {iv : Int} {pts : List ByteArray} {nts : List NtT} {A B : Option Addr} {c d : Nat} {x : NtT} {w : World} (hk : x.kd = 1) (he : ntE iv pts.length x = 0) (hi : 1 ≤ iv ∧ iv ≤ 1000) (hn : pts.length ≤ 8) :
  Calls Tryz.prog 95 [.agg #[.int .i64 iv, .slice A pts.length c, .slice B nts.length d], .agg #[.int .i64 x.kd, .int .i64 x.a, .int .i64 x.b, .int .i64 x.lo, .int .i64 x.hi]].toArray w (K.Gives (.int .i64 0) w) := by
 have hb := nt_b he
 have ha1 := hb.a
 have hb1 := hb.b
 have hr := hb.r1 hk
 refine K.enter (args := [.agg #[.int .i64 iv, .slice A pts.length c, .slice B nts.length d], .agg #[.int .i64 x.kd, .int .i64 x.a, .int .i64 x.b, .int .i64 x.lo, .int .i64 x.hi]]) Tryz.func95 rfl (n := 75) rfl ?_
 refine zR ?_
 refine sr ?_
 refine qn (K.box) fun b2 => ?_
 refine qn (K.box) fun b3 => ?_
 refine qa ?_
 refine sn (sr (ql (K.jA ag_58 rfl (K.m0) rfl) ?_))
 refine qc (K.nA cal_103 (fun F w hF hw => c103_1 hk w)) ?_
 refine qa ?_
 refine sn (K.seq (sr (qm ?_)))
 refine qp (K.eql_ifn ift_180 rfl) ?_
 refine sn (K.oA rfl ?_)
 refine K.skip (K.dA (K.seq (sr (qp (K.aA fo_25_1 rfl) ?_))))
 refine ql (K.fA one_22 rfl (K.m1) rfl) ?_
 refine qp (K.aB sl_22 rfl) ?_
 refine qp (K.oB rfl rfl (by omega)) ?_
 refine qp (K.aA fo_58_1 rfl) ?_
 refine ql (K.fA one_3 rfl (K.m0) rfl) ?_
 refine qp (K.aA fo_58_2 rfl) ?_
 refine ql (K.fA one_3 rfl (K.m0) rfl) ?_
 refine qn (K.buildSlice (bs26 _ _)) fun b21 => ?_
 refine qc (K.nA cal_59 (fun F w hF hw => c59_2f (by omega) hw (hF _ (K.m0)))) ?_
 refine sn (K.oA rfl ?_)
 refine K.skip (K.dA (K.seq (sr (qm ?_))))
 refine qc (K.calli_g rfl mm_183 cal_189 (fun F w hF hw => c189 w)) ?_
 refine qp (K.Pure.eq (K.eql rfl rfl) (show _ = Value.bool true from rfl)) ?_
 refine qm ?_
 refine qp (K.aA fo_58_2 rfl) ?_
 refine ql (K.fA one_3 rfl (K.m1) rfl) ?_
 refine qp (K.Pure.eq (K.neq rfl rfl) (show _ = Value.bool false from congrArg Value.bool (decide_eq_false (fun h => h (hb.one (by omega)))))) ?_
 refine qp (K.sA rfl) ?_
 iterate 2 refine qm ?_
 refine qc (K.calli_g rfl mm_183 cal_189 (fun F w hF hw => c189 w)) ?_
 refine qp (K.Pure.eq (K.eql rfl rfl) (show _ = Value.bool false from rfl)) ?_
 refine qm ?_
 iterate 5 refine qs ?_
 refine qp (K.dB rfl) ?_
 refine qp (K.dB rfl) ?_
 refine sn (K.oA rfl ?_)
 refine K.skip (K.dA (sr ?_))
 iterate 3 refine qa ?_
 refine sn (K.seq (sr (qm ?_)))
 refine sn (K.block (sr (K.mA (K.assertY con_183 rfl) rfl ?_)))
 refine zN ?_
 iterate 2 refine qx ?_
 refine sn (K.yA rfl ?_)
 refine K.gA (qa ?_)
 refine K.lA (K.kA (K.dA (K.seq (K.block (sr ?_)))))
 iterate 2 refine qm ?_
 refine qp (K.aA fo_58_3 rfl) ?_
 refine qp (K.aA fo_46_0 rfl) ?_
 refine ql (K.fA one_3 rfl (K.m1) rfl) ?_
 refine qp (K.aA fo_58_3 rfl) ?_
 refine qp (K.aA fo_46_1 rfl) ?_
 refine ql (K.fA one_3 rfl (K.m1) rfl) ?_
 refine qn (K.buildSlice (bs26 _ _)) fun b65 => ?_
 refine qc (K.nA cal_59 (fun F w hF hw => c59_2f (by omega) hw (hF _ (K.m0)))) ?_
 refine qa ?_
 refine sn (K.oA rfl ?_)
 refine sr (qp (K.aA fo_58_3 rfl) ?_)
 refine qp (K.aA fo_46_1 rfl) ?_
 refine ql (K.fA one_3 rfl (K.m2) rfl) ?_
 refine qp (K.aA fo_58_3 rfl) ?_
 refine qp (K.aA fo_46_0 rfl) ?_
 refine ql (K.fA one_3 rfl (K.m2) rfl) ?_
 refine qm ?_
 refine qp (K.tA rfl rfl (by omega)) ?_
 refine qp (K.Pure.eq (K.lss rfl rfl) (show _ = Value.bool false from congrArg Value.bool (decide_eq_false (by omega)))) ?_
 refine qa ?_
 refine sn (K.oA rfl ?_)
 refine K.skip (K.kA (K.dA (sr (qa ?_))))
 refine sn (K.ret (et ?_))
 exact K.gives rfl

set_option maxRecDepth 100000 in
theorem c95_2 {iv : Int} {pts : List ByteArray} {nts : List NtT} {A B : Option Addr} {c d : Nat} {x : NtT} {w : World} (hk : x.kd = 2) (he : ntE iv pts.length x = 0) (hi : 1 ≤ iv ∧ iv ≤ 1000) (hn : pts.length ≤ 8) :
  Calls Tryz.prog 95 [.agg #[.int .i64 iv, .slice A pts.length c, .slice B nts.length d], .agg #[.int .i64 x.kd, .int .i64 x.a, .int .i64 x.b, .int .i64 x.lo, .int .i64 x.hi]].toArray w (K.Gives (.int .i64 0) w) := by
 have hb := nt_b he
 have ha1 := hb.a
 have hb1 := hb.b
 have hr := hb.r2 hk
 have hq : 0 ≤ (9000 : Int) / iv ∧ (9000 : Int) / iv ≤ 9000 := ⟨Int.ediv_nonneg (by decide) (by omega), Int.ediv_le_self iv (by decide)⟩
 refine K.enter (args := [.agg #[.int .i64 iv, .slice A pts.length c, .slice B nts.length d], .agg #[.int .i64 x.kd, .int .i64 x.a, .int .i64 x.b, .int .i64 x.lo, .int .i64 x.hi]]) Tryz.func95 rfl (n := 75) rfl ?_
 refine zR ?_
 refine sr ?_
 refine qn (K.box) fun b2 => ?_
 refine qn (K.box) fun b3 => ?_
 refine qa ?_
 refine sn (sr (ql (K.jA ag_58 rfl (K.m0) rfl) ?_))
 refine qc (K.nA cal_103 (fun F w hF hw => c103_2 hk w)) ?_
 refine qa ?_
 refine sn (K.seq (sr (qm ?_)))
 refine qp (K.eql_ifn ift_180 rfl) ?_
 refine sn (K.oA rfl ?_)
 refine K.skip (K.dA (K.seq (sr (qp (K.aA fo_25_1 rfl) ?_))))
 refine ql (K.fA one_22 rfl (K.m1) rfl) ?_
 refine qp (K.aB sl_22 rfl) ?_
 refine qp (K.oB rfl rfl (by omega)) ?_
 refine qp (K.aA fo_58_1 rfl) ?_
 refine ql (K.fA one_3 rfl (K.m0) rfl) ?_
 refine qp (K.aA fo_58_2 rfl) ?_
 refine ql (K.fA one_3 rfl (K.m0) rfl) ?_
 refine qn (K.buildSlice (bs26 _ _)) fun b21 => ?_
 refine qc (K.nA cal_59 (fun F w hF hw => c59_2f (by omega) hw (hF _ (K.m0)))) ?_
 refine sn (K.oA rfl ?_)
 refine K.skip (K.dA (K.seq (sr (qm ?_))))
 refine qc (K.calli_g rfl mm_184 cal_190 (fun F w hF hw => c190 w)) ?_
 refine qp (K.Pure.eq (K.eql rfl rfl) (show _ = Value.bool true from rfl)) ?_
 refine qm ?_
 refine qp (K.aA fo_58_2 rfl) ?_
 refine ql (K.fA one_3 rfl (K.m1) rfl) ?_
 refine qp (K.Pure.eq (K.neq rfl rfl) (show _ = Value.bool false from congrArg Value.bool (decide_eq_false (fun h => h (hb.one (by omega)))))) ?_
 refine qp (K.sA rfl) ?_
 iterate 2 refine qm ?_
 refine qc (K.calli_g rfl mm_184 cal_190 (fun F w hF hw => c190 w)) ?_
 refine qp (K.Pure.eq (K.eql rfl rfl) (show _ = Value.bool false from rfl)) ?_
 refine qm ?_
 iterate 5 refine qs ?_
 refine qp (K.dB rfl) ?_
 refine qp (K.dB rfl) ?_
 refine sn (K.oA rfl ?_)
 refine K.skip (K.dA (sr ?_))
 iterate 3 refine qa ?_
 refine sn (K.seq (sr (qm ?_)))
 refine sn (K.block (sr (K.mA (K.assertN con_183 rfl rfl zr_183) rfl ?_)))
 refine zN ?_
 iterate 2 refine qx ?_
 refine sn (K.oA rfl ?_)
 refine sr (K.mA (K.assertY con_184 rfl) rfl ?_)
 refine zN ?_
 iterate 2 refine qx ?_
 refine sn (K.yA rfl ?_)
 refine K.gA (qp (K.aA fo_25_0 rfl) ?_)
 refine ql (K.fA one_3 rfl (K.m2) rfl) ?_
 refine qp (K.quo_i64 rfl rfl (by omega) (by omega) (by omega)) ?_
 iterate 2 refine qa ?_
 refine K.lA (K.kA (K.dA (K.seq (K.block (sr ?_)))))
 iterate 2 refine qm ?_
 refine qp (K.aA fo_58_3 rfl) ?_
 refine qp (K.aA fo_46_0 rfl) ?_
 refine ql (K.fA one_3 rfl (K.m1) rfl) ?_
 refine qp (K.aA fo_58_3 rfl) ?_
 refine qp (K.aA fo_46_1 rfl) ?_
 refine ql (K.fA one_3 rfl (K.m1) rfl) ?_
 refine qn (K.buildSlice (bs26 _ _)) fun b65 => ?_
 refine qc (K.nA cal_59 (fun F w hF hw => c59_2f (by omega) hw (hF _ (K.m0)))) ?_
 refine qa ?_
 refine sn (K.oA rfl ?_)
 refine sr (qp (K.aA fo_58_3 rfl) ?_)
 refine qp (K.aA fo_46_1 rfl) ?_
 refine ql (K.fA one_3 rfl (K.m2) rfl) ?_
 refine qp (K.aA fo_58_3 rfl) ?_
 refine qp (K.aA fo_46_0 rfl) ?_
 refine ql (K.fA one_3 rfl (K.m2) rfl) ?_
 refine qm ?_
 refine qp (K.tA rfl rfl (by omega)) ?_
 refine qp (K.Pure.eq (K.lss rfl rfl) (show _ = Value.bool false from congrArg Value.bool (decide_eq_false (by omega)))) ?_
 refine qa ?_
 refine sn (K.oA rfl ?_)
 refine K.skip (K.kA (K.dA (sr (qa ?_))))
 refine sn (K.ret (et ?_))
 exact K.gives rfl

set_option maxRecDepth 100000 in
theorem c95_3 {iv : Int} {pts : List ByteArray} {nts : List NtT} {A B : Option Addr} {c d : Nat} {x : NtT} {w : World} (hk : x.kd = 3) (he : ntE iv pts.length x = 0) (hi : 1 ≤ iv ∧ iv ≤ 1000) (hn : pts.length ≤ 8) :
  Calls Tryz.prog 95 [.agg #[.int .i64 iv, .slice A pts.length c, .slice B nts.length d], .agg #[.int .i64 x.kd, .int .i64 x.a, .int .i64 x.b, .int .i64 x.lo, .int .i64 x.hi]].toArray w (K.Gives (.int .i64 0) w) := by
 have hb := nt_b he
 have ha1 := hb.a
 have hb1 := hb.b
 have hr := hb.r3 hk
 refine K.enter (args := [.agg #[.int .i64 iv, .slice A pts.length c, .slice B nts.length d], .agg #[.int .i64 x.kd, .int .i64 x.a, .int .i64 x.b, .int .i64 x.lo, .int .i64 x.hi]]) Tryz.func95 rfl (n := 75) rfl ?_
 refine zR ?_
 refine sr ?_
 refine qn (K.box) fun b2 => ?_
 refine qn (K.box) fun b3 => ?_
 refine qa ?_
 refine sn (sr (ql (K.jA ag_58 rfl (K.m0) rfl) ?_))
 refine qc (K.nA cal_103 (fun F w hF hw => c103_3 hk w)) ?_
 refine qa ?_
 refine sn (K.seq (sr (qm ?_)))
 refine qp (K.eql_ifn ift_180 rfl) ?_
 refine sn (K.oA rfl ?_)
 refine K.skip (K.dA (K.seq (sr (qp (K.aA fo_25_1 rfl) ?_))))
 refine ql (K.fA one_22 rfl (K.m1) rfl) ?_
 refine qp (K.aB sl_22 rfl) ?_
 refine qp (K.oB rfl rfl (by omega)) ?_
 refine qp (K.aA fo_58_1 rfl) ?_
 refine ql (K.fA one_3 rfl (K.m0) rfl) ?_
 refine qp (K.aA fo_58_2 rfl) ?_
 refine ql (K.fA one_3 rfl (K.m0) rfl) ?_
 refine qn (K.buildSlice (bs26 _ _)) fun b21 => ?_
 refine qc (K.nA cal_59 (fun F w hF hw => c59_2f (by omega) hw (hF _ (K.m0)))) ?_
 refine sn (K.oA rfl ?_)
 refine K.skip (K.dA (K.seq (sr (qm ?_))))
 refine qc (K.calli_g rfl mm_185 cal_191 (fun F w hF hw => c191 w)) ?_
 refine qp (K.Pure.eq (K.eql rfl rfl) (show _ = Value.bool false from rfl)) ?_
 refine qm ?_
 iterate 3 refine qs ?_
 refine qp (K.dB rfl) ?_
 iterate 2 refine qm ?_
 refine qc (K.calli_g rfl mm_185 cal_191 (fun F w hF hw => c191 w)) ?_
 refine qp (K.Pure.eq (K.eql rfl rfl) (show _ = Value.bool true from rfl)) ?_
 refine qm ?_
 refine qp (K.aA fo_58_1 rfl) ?_
 refine ql (K.fA one_3 rfl (K.m1) rfl) ?_
 refine qp (K.aA fo_58_2 rfl) ?_
 refine ql (K.fA one_3 rfl (K.m1) rfl) ?_
 refine qp (K.Pure.eq (K.eql rfl rfl) (show _ = Value.bool false from congrArg Value.bool (decide_eq_false (hb.two (by omega))))) ?_
 refine qp (K.sA rfl) ?_
 refine qp (K.dB rfl) ?_
 refine sn (K.oA rfl ?_)
 refine K.skip (K.dA (sr ?_))
 iterate 3 refine qa ?_
 refine sn (K.seq (sr (qm ?_)))
 refine sn (K.block (sr (K.mA (K.assertN con_183 rfl rfl zr_183) rfl ?_)))
 refine zN ?_
 iterate 2 refine qx ?_
 refine sn (K.oA rfl ?_)
 refine sr (K.mA (K.assertN con_184 rfl rfl zr_184) rfl ?_)
 refine zN ?_
 iterate 2 refine qx ?_
 refine sn (K.oA rfl ?_)
 refine sr (K.mA (K.assertN con_186 rfl rfl zr_186) rfl ?_)
 refine zN ?_
 iterate 2 refine qx ?_
 refine sn (K.oA rfl ?_)
 refine K.skip (K.kA (K.dA (K.seq (K.block (sr ?_)))))
 iterate 2 refine qm ?_
 refine qp (K.aA fo_58_3 rfl) ?_
 refine qp (K.aA fo_46_0 rfl) ?_
 refine ql (K.fA one_3 rfl (K.m1) rfl) ?_
 refine qp (K.aA fo_58_3 rfl) ?_
 refine qp (K.aA fo_46_1 rfl) ?_
 refine ql (K.fA one_3 rfl (K.m1) rfl) ?_
 refine qn (K.buildSlice (bs26 _ _)) fun b65 => ?_
 refine qc (K.nA cal_59 (fun F w hF hw => c59_2f (by omega) hw (hF _ (K.m0)))) ?_
 refine qa ?_
 refine sn (K.oA rfl ?_)
 refine sr (qp (K.aA fo_58_3 rfl) ?_)
 refine qp (K.aA fo_46_1 rfl) ?_
 refine ql (K.fA one_3 rfl (K.m2) rfl) ?_
 refine qp (K.aA fo_58_3 rfl) ?_
 refine qp (K.aA fo_46_0 rfl) ?_
 refine ql (K.fA one_3 rfl (K.m2) rfl) ?_
 refine qm ?_
 refine qp (K.tA rfl rfl (by omega)) ?_
 refine qp (K.Pure.eq (K.lss rfl rfl) (show _ = Value.bool false from congrArg Value.bool (decide_eq_false (by omega)))) ?_
 refine qa ?_
 refine sn (K.oA rfl ?_)
 refine K.skip (K.kA (K.dA (sr (qa ?_))))
 refine sn (K.ret (et ?_))
 exact K.gives rfl

set_option maxRecDepth 100000 in
theorem c95_4 {iv : Int} {pts : List ByteArray} {nts : List NtT} {A B : Option Addr} {c d : Nat} {x : NtT} {w : World} (hk : x.kd = 4) (he : ntE iv pts.length x = 0) (hi : 1 ≤ iv ∧ iv ≤ 1000) (hn : pts.length ≤ 8) :
  Calls Tryz.prog 95 [.agg #[.int .i64 iv, .slice A pts.length c, .slice B nts.length d], .agg #[.int .i64 x.kd, .int .i64 x.a, .int .i64 x.b, .int .i64 x.lo, .int .i64 x.hi]].toArray w (K.Gives (.int .i64 0) w) := by
 have hb := nt_b he
 have ha1 := hb.a
 have hb1 := hb.b
 have hr := hb.r4 hk
 refine K.enter (args := [.agg #[.int .i64 iv, .slice A pts.length c, .slice B nts.length d], .agg #[.int .i64 x.kd, .int .i64 x.a, .int .i64 x.b, .int .i64 x.lo, .int .i64 x.hi]]) Tryz.func95 rfl (n := 75) rfl ?_
 refine zR ?_
 refine sr ?_
 refine qn (K.box) fun b2 => ?_
 refine qn (K.box) fun b3 => ?_
 refine qa ?_
 refine sn (sr (ql (K.jA ag_58 rfl (K.m0) rfl) ?_))
 refine qc (K.nA cal_103 (fun F w hF hw => c103_4 hk w)) ?_
 refine qa ?_
 refine sn (K.seq (sr (qm ?_)))
 refine qp (K.eql_ifn ift_180 rfl) ?_
 refine sn (K.oA rfl ?_)
 refine K.skip (K.dA (K.seq (sr (qp (K.aA fo_25_1 rfl) ?_))))
 refine ql (K.fA one_22 rfl (K.m1) rfl) ?_
 refine qp (K.aB sl_22 rfl) ?_
 refine qp (K.oB rfl rfl (by omega)) ?_
 refine qp (K.aA fo_58_1 rfl) ?_
 refine ql (K.fA one_3 rfl (K.m0) rfl) ?_
 refine qp (K.aA fo_58_2 rfl) ?_
 refine ql (K.fA one_3 rfl (K.m0) rfl) ?_
 refine qn (K.buildSlice (bs26 _ _)) fun b21 => ?_
 refine qc (K.nA cal_59 (fun F w hF hw => c59_2f (by omega) hw (hF _ (K.m0)))) ?_
 refine sn (K.oA rfl ?_)
 refine K.skip (K.dA (K.seq (sr (qm ?_))))
 refine qc (K.calli_g rfl mm_186 cal_192 (fun F w hF hw => c192 w)) ?_
 refine qp (K.Pure.eq (K.eql rfl rfl) (show _ = Value.bool false from rfl)) ?_
 refine qm ?_
 iterate 3 refine qs ?_
 refine qp (K.dB rfl) ?_
 iterate 2 refine qm ?_
 refine qc (K.calli_g rfl mm_186 cal_192 (fun F w hF hw => c192 w)) ?_
 refine qp (K.Pure.eq (K.eql rfl rfl) (show _ = Value.bool true from rfl)) ?_
 refine qm ?_
 refine qp (K.aA fo_58_1 rfl) ?_
 refine ql (K.fA one_3 rfl (K.m1) rfl) ?_
 refine qp (K.aA fo_58_2 rfl) ?_
 refine ql (K.fA one_3 rfl (K.m1) rfl) ?_
 refine qp (K.Pure.eq (K.eql rfl rfl) (show _ = Value.bool false from congrArg Value.bool (decide_eq_false (hb.two (by omega))))) ?_
 refine qp (K.sA rfl) ?_
 refine qp (K.dB rfl) ?_
 refine sn (K.oA rfl ?_)
 refine K.skip (K.dA (sr ?_))
 iterate 3 refine qa ?_
 refine sn (K.seq (sr (qm ?_)))
 refine sn (K.block (sr (K.mA (K.assertN con_183 rfl rfl zr_183) rfl ?_)))
 refine zN ?_
 iterate 2 refine qx ?_
 refine sn (K.oA rfl ?_)
 refine sr (K.mA (K.assertN con_184 rfl rfl zr_184) rfl ?_)
 refine zN ?_
 iterate 2 refine qx ?_
 refine sn (K.oA rfl ?_)
 refine sr (K.mA (K.assertY con_186 rfl) rfl ?_)
 refine zN ?_
 iterate 2 refine qx ?_
 refine sn (K.yA rfl ?_)
 refine K.gA ?_
 iterate 2 refine qa ?_
 refine K.lA (K.kA (K.dA (K.seq (K.block (sr ?_)))))
 iterate 2 refine qm ?_
 refine qp (K.aA fo_58_3 rfl) ?_
 refine qp (K.aA fo_46_0 rfl) ?_
 refine ql (K.fA one_3 rfl (K.m1) rfl) ?_
 refine qp (K.aA fo_58_3 rfl) ?_
 refine qp (K.aA fo_46_1 rfl) ?_
 refine ql (K.fA one_3 rfl (K.m1) rfl) ?_
 refine qn (K.buildSlice (bs26 _ _)) fun b65 => ?_
 refine qc (K.nA cal_59 (fun F w hF hw => c59_2f (by omega) hw (hF _ (K.m0)))) ?_
 refine qa ?_
 refine sn (K.oA rfl ?_)
 refine sr (qp (K.aA fo_58_3 rfl) ?_)
 refine qp (K.aA fo_46_1 rfl) ?_
 refine ql (K.fA one_3 rfl (K.m2) rfl) ?_
 refine qp (K.aA fo_58_3 rfl) ?_
 refine qp (K.aA fo_46_0 rfl) ?_
 refine ql (K.fA one_3 rfl (K.m2) rfl) ?_
 refine qm ?_
 refine qp (K.tA rfl rfl (by omega)) ?_
 refine qp (K.Pure.eq (K.lss rfl rfl) (show _ = Value.bool false from congrArg Value.bool (decide_eq_false (by omega)))) ?_
 refine qa ?_
 refine sn (K.oA rfl ?_)
 refine K.skip (K.kA (K.dA (sr (qa ?_))))
 refine sn (K.ret (et ?_))
 exact K.gives rfl

theorem c95 {iv : Int} {pts : List ByteArray} {nts : List NtT} {A B : Option Addr} {c d : Nat} {x : NtT} {w : World} (he : ntE iv pts.length x = 0) (hi : 1 ≤ iv ∧ iv ≤ 1000) (hn : pts.length ≤ 8) : Calls Tryz.prog 95 [.agg #[.int .i64 iv, .slice A pts.length c, .slice B nts.length d], .agg #[.int .i64 x.kd, .int .i64 x.a, .int .i64 x.b, .int .i64 x.lo, .int .i64 x.hi]].toArray w (K.Gives (.int .i64 0) w) := by
 have h := (nt_b he).k
 by_cases h1 : x.kd = 1
 ·exact c95_1 h1 he hi hn
 ·by_cases h2 : x.kd = 2
  ·exact c95_2 h2 he hi hn
  ·by_cases h3 : x.kd = 3
   ·exact c95_3 h3 he hi hn
   ·exact c95_4 (by omega) he hi hn


end Go.Proofs.YtnhhfkgldoeifaaGreatDoor.Sh
end
