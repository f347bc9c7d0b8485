/-
  Lemmas and walks of functions, joined and with only what the claim needs.
  Conditions stand in each theorem.
-/
import Derived.Test.YtnhhfkgldoeifaaGreatDoorProg
import Derived.Test.YtnhhfkgldoeifaaGreatDoorRows
import Derived.Below
import Derived.Laws.AppendOwn
import Derived.Laws.Rows
import Derived.Laws.Slices
import Derived.Tactics
import Derived.OrdersHeld
import Derived.KernelRfl
import Derived.WalkKit
import Derived.Deep.AppendLies
import Derived.IntWalk
import Derived.Scope
import Derived.WalkSpells
import Derived.DeepKeys
import Derived.Deep.Upon
import Derived.Laws.Small
import Derived.RangeFuncLeaves
import Derived.RangeFuncSeq
import Derived.OrdersIn
import Derived.Sort.LoopGhostIn
import Derived.TacticsIn
import Derived.RangeFuncOwn
import Derived.WideKeyMaps
import Derived.DeepKeys4
import Derived.Carry
import Derived.Laws.CopyRow
import Derived.WalkArith
import Derived.Laws.Closers25b
import Derived.ProofKit
import Derived.OpenShut
import Derived.LaidMore
import Derived.Lay
import Derived.Stop.Joined
import Derived.Lib.LaidTab
import Derived.Shelf.Strconv.Itoa3
import Derived.ChangeOld
import Derived.SizedLaws
import Derived.Deep.Slices
import Derived.Deep.Fields
import Derived.ChangeSame
import Derived.Lib.SmallJoins
import Derived.Laws.MakeOwn
import Derived.WideLaws
import Derived.Shelf.Small.Strs
import Derived.Shelf.Strings.OnBuilder
import Derived.Shelf.Strings.BuilderK
import Derived.Shelf.Strconv.Atoi
import Derived.Shelf.Strings.Prefix
import Derived.Shelf.Strings.Split
import Derived.Shelf.Strings.Search3
import Derived.Shelf.Slices.Turned
import Derived.Lib.FrozenHead
import Derived.Lib.OthersKept
import Derived.Laws.Concat
import Derived.Lib.AtoiErrMem
import Derived.Lib.ItoaNum
import Derived.Lib.Join
import Derived.RecoverIn
import Derived.Lib.IndexBytes
import Derived.Lib.Bytealg
import Derived.SevenTiedAt
import Derived.Test.YtnhhfkgldoeifaaGreatDoorZf
set_option linter.unusedSimpArgs false
set_option linter.unusedVariables false
section
namespace Go.Proofs.YtnhhfkgldoeifaaGreatDoor.Sh
open Go.RowKit Go
open Go.K (setd setn ev nth over cl eI eP eT setM setF)
attribute [local irreducible] K.blk K.row
theorem eIl {xs : List Int} : (xs.flatMap K.eI).length = xs.length := by
 induction xs with
 | nil => rfl
 | cons x xs ih => rw [List.flatMap_cons, List.length_append, ih]; show 1 + xs.length = xs.length + 1; omega
theorem eIs {xs : List Int} {x : Int} : xs.flatMap K.eI ++ [.int .i64 x] = (xs ++ [x]).flatMap K.eI := by rw [List.flatMap_append]; rfl
theorem bsIz (a : Int) : K.Bs Tryz.prog 26 1 [(0, .int .i64 a)] 3 [.int .i64 a] := fun w => by kernel_rfl
section
variable {lf bad : Bool} {iv : Int} {nts : List NtT} {f i : Nat} {Bm ls : List Int} {fb : Bool × List Int}
theorem tr_out : trS true iv nts f i Bm true ls fb = fb := by cases f <;> simp [trS]
theorem tr_cut (h : (fb.1 && decide (fb.2.length ≤ ls.length)) = true) : trS lf iv nts f i Bm bad ls fb = fb := by cases f <;> simp [trS, h]
theorem tr_bad (h : (fb.1 && decide (fb.2.length ≤ ls.length)) = false) : trS false iv nts f i Bm true ls fb = (true, ls) := by cases f <;> simp [trS, h]
theorem tr_end (h : (fb.1 && decide (fb.2.length ≤ ls.length)) = false) (hi : i = nts.length) : trS true iv nts f i Bm false ls fb = (true, ls) := by cases f <;> simp [trS, h, hi]
theorem tr_none (h : (fb.1 && decide (fb.2.length ≤ ls.length)) = false) : trS false iv nts 0 i Bm false ls fb = fb := by simp [trS, h]
theorem tr_f (h : (fb.1 && decide (fb.2.length ≤ ls.length)) = false) : trS false iv nts (f + 1) i Bm false ls fb = trS false iv nts f (i + 1) Bm false ls (trS false iv nts f (i + 1) (wthB iv Bm (nts.getD i default) 0).1 (!(wthB iv Bm (nts.getD i default) 0).2) (ls ++ [(i : Int)]) fb) := by
 conv => lhs; unfold trS
 simp [h]
theorem tr_t (h : (fb.1 && decide (fb.2.length ≤ ls.length)) = false) (hi : i ≠ nts.length) : trS true iv nts (f + 1) i Bm false ls fb = trS true iv nts f (i + 1) (wthB iv Bm (nts.getD i default) 0).1 (!(wthB iv Bm (nts.getD i default) 0).2) ls (trS true iv nts f (i + 1) Bm false (ls ++ [(i : Int)]) fb) := by
 conv => lhs; unfold trS
 simp [h, hi]
end

def Go97 (iv : Int) (pts : List ByteArray) (nts : List NtT) (A B : Option Addr) (c d p1 p2 p3 p4 p5 p6 : Nat) (lf bad : Bool) (f : Nat) (w0 : World) : Prop :=
 ∀ {i n : Nat} {ls bt : List Int} {fd : Bool} {Bm : List Int} {lv : List Value} {Q R : Option Addr} {c1 c2 : Nat} {T : List K.Chunk} {w : World}, K.St w0 (K.blk p6 162 [.func (.func 97) #[] #[.pointer (some ⟨p1, 0, none⟩), .pointer (some ⟨p2, 0, none⟩), .pointer (some ⟨p3, 0, none⟩), .pointer (some ⟨p4, 0, none⟩), .pointer (some ⟨p5, 0, none⟩), .pointer (some ⟨p6, 0, none⟩)]] :: K.blk p1 4 [.bool fd] :: K.blk p2 26 [.slice Q n c1] :: K.row (.slice Q n c1) 3 1 n lv :: K.blk p3 26 [.slice R bt.length c2] :: K.row (.slice R bt.length c2) 3 1 bt.length (bt.flatMap K.eI) :: K.blk p4 4 [.bool lf] :: K.blk p5 117 [.int .i64 iv, .slice A pts.length c, .slice B nts.length d] :: T) w → n = ls.length → lv = ls.flatMap K.eI → Cl Bm → ls.length ≤ i → i + f = nts.length → Calls Tryz.prog 97 [.int .i64 (i : Int), .agg (K.mI Bm).toArray, .bool bad, .pointer (some ⟨p1, 0, none⟩), .pointer (some ⟨p2, 0, none⟩), .pointer (some ⟨p3, 0, none⟩), .pointer (some ⟨p4, 0, none⟩), .pointer (some ⟨p5, 0, none⟩), .pointer (some ⟨p6, 0, none⟩)].toArray w (K.RetU (fun _ : (Option Addr × Nat) × (Option Addr × Nat) => True) (fun _ => .tuple #[]) w0 (fun z => K.blk p6 162 [.func (.func 97) #[] #[.pointer (some ⟨p1, 0, none⟩), .pointer (some ⟨p2, 0, none⟩), .pointer (some ⟨p3, 0, none⟩), .pointer (some ⟨p4, 0, none⟩), .pointer (some ⟨p5, 0, none⟩), .pointer (some ⟨p6, 0, none⟩)]] :: K.blk p1 4 [.bool (trS lf iv nts f i Bm bad ls (fd, bt)).1] :: K.blk p2 26 [.slice z.1.1 n z.1.2] :: K.row (.slice z.1.1 n z.1.2) 3 1 n lv :: K.blk p3 26 [.slice z.2.1 (trS lf iv nts f i Bm bad ls (fd, bt)).2.length z.2.2] :: K.row (.slice z.2.1 (trS lf iv nts f i Bm bad ls (fd, bt)).2.length z.2.2) 3 1 (trS lf iv nts f i Bm bad ls (fd, bt)).2.length ((trS lf iv nts f i Bm bad ls (fd, bt)).2.flatMap K.eI) :: K.blk p4 4 [.bool lf] :: K.blk p5 117 [.int .i64 iv, .slice A pts.length c, .slice B nts.length d] :: T))

set_option maxRecDepth 100000 in
set_option maxHeartbeats 4000000 in
theorem c97_tt {iv : Int} {pts : List ByteArray} {nts : List NtT} {A B : Option Addr} {c d : Nat} {p1 p2 p3 p4 p5 p6 : Nat} {w0 : World} (hN : K.Rd w0 B 5 eO nts) (g : GoodS iv pts nts) {f : Nat} {i n : Nat} {ls bt : List Int} {fd : Bool} {Bm : List Int} {lv : List Value} {Q R : Option Addr} {c1 c2 : Nat} {T : List K.Chunk} {w : World} (hst : K.St w0 (K.blk p6 162 [.func (.func 97) #[] #[.pointer (some ⟨p1, 0, none⟩), .pointer (some ⟨p2, 0, none⟩), .pointer (some ⟨p3, 0, none⟩), .pointer (some ⟨p4, 0, none⟩), .pointer (some ⟨p5, 0, none⟩), .pointer (some ⟨p6, 0, none⟩)]] :: K.blk p1 4 [.bool fd] :: K.blk p2 26 [.slice Q n c1] :: K.row (.slice Q n c1) 3 1 n lv :: K.blk p3 26 [.slice R bt.length c2] :: K.row (.slice R bt.length c2) 3 1 bt.length (bt.flatMap K.eI) :: K.blk p4 4 [.bool true] :: K.blk p5 117 [.int .i64 iv, .slice A pts.length c, .slice B nts.length d] :: T) w) (hn : n = ls.length) (hlv : lv = ls.flatMap K.eI) (hcl : Cl Bm) (hli : ls.length ≤ i) (hf : i + f = nts.length) :
  Calls Tryz.prog 97 [.int .i64 (i : Int), .agg (K.mI Bm).toArray, .bool true, .pointer (some ⟨p1, 0, none⟩), .pointer (some ⟨p2, 0, none⟩), .pointer (some ⟨p3, 0, none⟩), .pointer (some ⟨p4, 0, none⟩), .pointer (some ⟨p5, 0, none⟩), .pointer (some ⟨p6, 0, none⟩)].toArray w (K.RetU (fun _ : (Option Addr × Nat) × (Option Addr × Nat) => True) (fun _ => .tuple #[]) w0 (fun z => K.blk p6 162 [.func (.func 97) #[] #[.pointer (some ⟨p1, 0, none⟩), .pointer (some ⟨p2, 0, none⟩), .pointer (some ⟨p3, 0, none⟩), .pointer (some ⟨p4, 0, none⟩), .pointer (some ⟨p5, 0, none⟩), .pointer (some ⟨p6, 0, none⟩)]] :: K.blk p1 4 [.bool (trS true iv nts f i Bm true ls (fd, bt)).1] :: K.blk p2 26 [.slice z.1.1 n z.1.2] :: K.row (.slice z.1.1 n z.1.2) 3 1 n lv :: K.blk p3 26 [.slice z.2.1 (trS true iv nts f i Bm true ls (fd, bt)).2.length z.2.2] :: K.row (.slice z.2.1 (trS true iv nts f i Bm true ls (fd, bt)).2.length z.2.2) 3 1 (trS true iv nts f i Bm true ls (fd, bt)).2.length ((trS true iv nts f i Bm true ls (fd, bt)).2.flatMap K.eI) :: K.blk p4 4 [.bool true] :: K.blk p5 117 [.int .i64 iv, .slice A pts.length c, .slice B nts.length d] :: T)) := by
 subst hn hlv
 have hgn := g.n
 have hgl := g.l
 refine K.enterU (args := [.int .i64 (i : Int), .agg (K.mI Bm).toArray, .bool true, .pointer (some ⟨p1, 0, none⟩), .pointer (some ⟨p2, 0, none⟩), .pointer (some ⟨p3, 0, none⟩), .pointer (some ⟨p4, 0, none⟩), .pointer (some ⟨p5, 0, none⟩), .pointer (some ⟨p6, 0, none⟩)]) Tryz.func97 rfl (n := 81) rfl hst ?_
 refine zR ?_
 refine sr ?_
 refine qn (K.box_mx rfl) fun b10 => ?_
 refine sn (K.seq (K.seq ?_))
 refine K.permH (L' := _ :: _ :: _ :: _ :: _ :: _ :: _ :: _ :: _ :: _) (Kq.pz ((Kq.pz ((Kq.pz ((Kq.pz ((Kq.pz ((Kq.pz ((Kq.pz ((Kq.pz (Kq.p0)))))))))))))))) ?_
 refine K.gA (ql (K.fA qC rfl (K.m1) rfl) ?_)
 refine qm ?_
 refine K.split 15 rfl (fun hg15 => ?_) (fun hg15 => ?_)
 ·try replace hg15 := Kq.oT hg15
  refine ql (K.fA gC rfl (K.m2) rfl) ?_
  refine qp (K.aB yB rfl) ?_
  refine ql (K.fA gC rfl (K.m4) rfl) ?_
  refine qp (K.aB yB rfl) ?_
  refine qp (K.geq rfl rfl) ?_
  refine qp (K.sA rfl) ?_
  refine qm ?_
  refine K.split 22 rfl (fun hg22 => ?_) (fun hg22 => ?_)
  ·try replace hg22 := Kq.oT hg22
   iterate 4 refine qs ?_
   refine qp (K.sA rfl) ?_
   refine sn (K.yA rfl ?_)
   refine K.ret (K.iA ?_)
   refine K.wA (fun w _ => K.rB rfl w) ?_
   have htr : (trS true iv nts f i Bm true ls (fd, bt)) = (fd, bt) := tr_out
   exact K.retsU ((Q, c1), (R, c2)) trivial rfl (by rw [htr]; exact (Kq.sc (Kq.sc (Kq.sc (Kq.sc (Kq.sc (Kq.sc (Kq.sc (Kq.sc (Kq.s1 Kq.s0))))))))))
  try replace hg22 := Kq.oF hg22
  refine ql (K.fA qC rfl (K.m6) rfl) ?_
  iterate 2 refine qm ?_
  refine qp (K.sA rfl) ?_
  refine qp (K.dB rfl) ?_
  refine sn (K.yA rfl ?_)
  refine K.ret (K.iA ?_)
  refine K.wA (fun w _ => K.rB rfl w) ?_
  have htr : (trS true iv nts f i Bm true ls (fd, bt)) = (fd, bt) := tr_out
  exact K.retsU ((Q, c1), (R, c2)) trivial rfl (by rw [htr]; exact (Kq.sc (Kq.sc (Kq.sc (Kq.sc (Kq.sc (Kq.sc (Kq.sc (Kq.sc (Kq.s1 Kq.s0))))))))))
 try replace hg15 := Kq.oF hg15
 iterate 5 refine qs ?_
 refine qp (K.dB rfl) ?_
 refine qm ?_
 refine ql (K.fA qC rfl (K.m6) rfl) ?_
 iterate 2 refine qm ?_
 refine qp (K.sA rfl) ?_
 refine qp (K.dB rfl) ?_
 refine sn (K.yA rfl ?_)
 refine K.ret (K.iA ?_)
 refine K.wA (fun w _ => K.rB rfl w) ?_
 have htr : (trS true iv nts f i Bm true ls (fd, bt)) = (fd, bt) := tr_out
 exact K.retsU ((Q, c1), (R, c2)) trivial rfl (by rw [htr]; exact (Kq.sc (Kq.sc (Kq.sc (Kq.sc (Kq.sc (Kq.sc (Kq.sc (Kq.sc (Kq.s1 Kq.s0))))))))))

set_option maxRecDepth 100000 in
set_option maxHeartbeats 4000000 in
theorem c97_ft {iv : Int} {pts : List ByteArray} {nts : List NtT} {A B : Option Addr} {c d : Nat} {p1 p2 p3 p4 p5 p6 : Nat} {w0 : World} (hN : K.Rd w0 B 5 eO nts) (g : GoodS iv pts nts) {f : Nat} {i n : Nat} {ls bt : List Int} {fd : Bool} {Bm : List Int} {lv : List Value} {Q R : Option Addr} {c1 c2 : Nat} {T : List K.Chunk} {w : World} (hst : K.St w0 (K.blk p6 162 [.func (.func 97) #[] #[.pointer (some ⟨p1, 0, none⟩), .pointer (some ⟨p2, 0, none⟩), .pointer (some ⟨p3, 0, none⟩), .pointer (some ⟨p4, 0, none⟩), .pointer (some ⟨p5, 0, none⟩), .pointer (some ⟨p6, 0, none⟩)]] :: K.blk p1 4 [.bool fd] :: K.blk p2 26 [.slice Q n c1] :: K.row (.slice Q n c1) 3 1 n lv :: K.blk p3 26 [.slice R bt.length c2] :: K.row (.slice R bt.length c2) 3 1 bt.length (bt.flatMap K.eI) :: K.blk p4 4 [.bool false] :: K.blk p5 117 [.int .i64 iv, .slice A pts.length c, .slice B nts.length d] :: T) w) (hn : n = ls.length) (hlv : lv = ls.flatMap K.eI) (hcl : Cl Bm) (hli : ls.length ≤ i) (hf : i + f = nts.length) :
  Calls Tryz.prog 97 [.int .i64 (i : Int), .agg (K.mI Bm).toArray, .bool true, .pointer (some ⟨p1, 0, none⟩), .pointer (some ⟨p2, 0, none⟩), .pointer (some ⟨p3, 0, none⟩), .pointer (some ⟨p4, 0, none⟩), .pointer (some ⟨p5, 0, none⟩), .pointer (some ⟨p6, 0, none⟩)].toArray w (K.RetU (fun _ : (Option Addr × Nat) × (Option Addr × Nat) => True) (fun _ => .tuple #[]) w0 (fun z => K.blk p6 162 [.func (.func 97) #[] #[.pointer (some ⟨p1, 0, none⟩), .pointer (some ⟨p2, 0, none⟩), .pointer (some ⟨p3, 0, none⟩), .pointer (some ⟨p4, 0, none⟩), .pointer (some ⟨p5, 0, none⟩), .pointer (some ⟨p6, 0, none⟩)]] :: K.blk p1 4 [.bool (trS false iv nts f i Bm true ls (fd, bt)).1] :: K.blk p2 26 [.slice z.1.1 n z.1.2] :: K.row (.slice z.1.1 n z.1.2) 3 1 n lv :: K.blk p3 26 [.slice z.2.1 (trS false iv nts f i Bm true ls (fd, bt)).2.length z.2.2] :: K.row (.slice z.2.1 (trS false iv nts f i Bm true ls (fd, bt)).2.length z.2.2) 3 1 (trS false iv nts f i Bm true ls (fd, bt)).2.length ((trS false iv nts f i Bm true ls (fd, bt)).2.flatMap K.eI) :: K.blk p4 4 [.bool false] :: K.blk p5 117 [.int .i64 iv, .slice A pts.length c, .slice B nts.length d] :: T)) := by
 subst hn hlv
 have hgn := g.n
 have hgl := g.l
 refine K.enterU (args := [.int .i64 (i : Int), .agg (K.mI Bm).toArray, .bool true, .pointer (some ⟨p1, 0, none⟩), .pointer (some ⟨p2, 0, none⟩), .pointer (some ⟨p3, 0, none⟩), .pointer (some ⟨p4, 0, none⟩), .pointer (some ⟨p5, 0, none⟩), .pointer (some ⟨p6, 0, none⟩)]) Tryz.func97 rfl (n := 81) rfl hst ?_
 refine zR ?_
 refine sr ?_
 refine qn (K.box_mx rfl) fun b10 => ?_
 refine sn (K.seq (K.seq ?_))
 refine K.joinW [27] [14, 15, 16, 17, 18, 19, 20, 21, 22, 23, 24, 25, 26] (fun vi L => vi = [.bool (fd && decide (bt.length ≤ ls.length))] ∧ L = K.blk p6 162 [.func (.func 97) #[] #[.pointer (some ⟨p1, 0, none⟩), .pointer (some ⟨p2, 0, none⟩), .pointer (some ⟨p3, 0, none⟩), .pointer (some ⟨p4, 0, none⟩), .pointer (some ⟨p5, 0, none⟩), .pointer (some ⟨p6, 0, none⟩)]] :: K.blk p1 4 [.bool fd] :: K.blk p2 26 [.slice Q ls.length c1] :: K.row (.slice Q ls.length c1) 3 1 ls.length (ls.flatMap K.eI) :: K.blk p3 26 [.slice R bt.length c2] :: K.row (.slice R bt.length c2) 3 1 bt.length (bt.flatMap K.eI) :: K.blk p4 4 [.bool false] :: K.blk p5 117 [.int .i64 iv, .slice A pts.length c, .slice B nts.length d] :: K.blk b10 94 (K.mI Bm) :: T) ?_ ?_
 ·refine K.permH (L' := _ :: _ :: _ :: _ :: _ :: _ :: _ :: _ :: _ :: _) (Kq.pz ((Kq.pz ((Kq.pz ((Kq.pz ((Kq.pz ((Kq.pz ((Kq.pz ((Kq.pz (Kq.p0)))))))))))))))) ?_
  refine K.gA (ql (K.fA qC rfl (K.m1) rfl) ?_)
  refine qm ?_
  refine K.split 15 rfl (fun hg15 => ?_) (fun hg15 => ?_)
  ·try replace hg15 := Kq.oT hg15
   refine ql (K.fA gC rfl (K.m2) rfl) ?_
   refine qp (K.aB yB rfl) ?_
   refine ql (K.fA gC rfl (K.m4) rfl) ?_
   refine qp (K.aB yB rfl) ?_
   refine qp (K.geq rfl rfl) ?_
   refine qp (K.sA rfl) ?_
   refine qm ?_
   refine K.split 22 rfl (fun hg22 => ?_) (fun hg22 => ?_)
   ·try replace hg22 := Kq.oT hg22
    iterate 4 refine qs ?_
    refine qp (K.sA rfl) ?_
    refine K.lA ?_
    exact K.sB (L' := K.blk p6 162 [.func (.func 97) #[] #[.pointer (some ⟨p1, 0, none⟩), .pointer (some ⟨p2, 0, none⟩), .pointer (some ⟨p3, 0, none⟩), .pointer (some ⟨p4, 0, none⟩), .pointer (some ⟨p5, 0, none⟩), .pointer (some ⟨p6, 0, none⟩)]] :: K.blk p1 4 [.bool fd] :: K.blk p2 26 [.slice Q ls.length c1] :: K.row (.slice Q ls.length c1) 3 1 ls.length (ls.flatMap K.eI) :: K.blk p3 26 [.slice R bt.length c2] :: K.row (.slice R bt.length c2) 3 1 bt.length (bt.flatMap K.eI) :: K.blk p4 4 [.bool false] :: K.blk p5 117 [.int .i64 iv, .slice A pts.length c, .slice B nts.length d] :: K.blk b10 94 (K.mI Bm) :: T) [.bool true] ⟨congrArg (fun b : Bool => [Value.bool b]) (by rw [hg15, decide_eq_true (by omega)]; rfl), rfl⟩ (K.st_sub (Kq.s0)) (by kernel_rfl)
   try replace hg22 := Kq.oF hg22
   refine ql (K.fA qC rfl (K.m6) rfl) ?_
   refine qm ?_
   refine qs ?_
   refine qp (K.dB rfl) ?_
   refine qp (K.dB rfl) ?_
   refine K.lA ?_
   exact K.sB (L' := K.blk p6 162 [.func (.func 97) #[] #[.pointer (some ⟨p1, 0, none⟩), .pointer (some ⟨p2, 0, none⟩), .pointer (some ⟨p3, 0, none⟩), .pointer (some ⟨p4, 0, none⟩), .pointer (some ⟨p5, 0, none⟩), .pointer (some ⟨p6, 0, none⟩)]] :: K.blk p1 4 [.bool fd] :: K.blk p2 26 [.slice Q ls.length c1] :: K.row (.slice Q ls.length c1) 3 1 ls.length (ls.flatMap K.eI) :: K.blk p3 26 [.slice R bt.length c2] :: K.row (.slice R bt.length c2) 3 1 bt.length (bt.flatMap K.eI) :: K.blk p4 4 [.bool false] :: K.blk p5 117 [.int .i64 iv, .slice A pts.length c, .slice B nts.length d] :: K.blk b10 94 (K.mI Bm) :: T) [.bool false] ⟨congrArg (fun b : Bool => [Value.bool b]) (by rw [hg15, decide_eq_false (by omega)]; rfl), rfl⟩ (K.st_sub (Kq.s0)) (by kernel_rfl)
  try replace hg15 := Kq.oF hg15
  iterate 5 refine qs ?_
  refine qp (K.dB rfl) ?_
  refine qm ?_
  refine ql (K.fA qC rfl (K.m6) rfl) ?_
  refine qm ?_
  refine qs ?_
  refine qp (K.dB rfl) ?_
  refine qp (K.dB rfl) ?_
  refine K.lA ?_
  exact K.sB (L' := K.blk p6 162 [.func (.func 97) #[] #[.pointer (some ⟨p1, 0, none⟩), .pointer (some ⟨p2, 0, none⟩), .pointer (some ⟨p3, 0, none⟩), .pointer (some ⟨p4, 0, none⟩), .pointer (some ⟨p5, 0, none⟩), .pointer (some ⟨p6, 0, none⟩)]] :: K.blk p1 4 [.bool fd] :: K.blk p2 26 [.slice Q ls.length c1] :: K.row (.slice Q ls.length c1) 3 1 ls.length (ls.flatMap K.eI) :: K.blk p3 26 [.slice R bt.length c2] :: K.row (.slice R bt.length c2) 3 1 bt.length (bt.flatMap K.eI) :: K.blk p4 4 [.bool false] :: K.blk p5 117 [.int .i64 iv, .slice A pts.length c, .slice B nts.length d] :: K.blk b10 94 (K.mI Bm) :: T) [.bool false] ⟨congrArg (fun b : Bool => [Value.bool b]) (by rw [hg15]; rfl), rfl⟩ (K.st_sub (Kq.s0)) (by kernel_rfl)
 intro vi vr L hJ
 obtain ⟨rfl, rfl⟩ := hJ
 refine zY ?_
 refine K.dA ?_
 refine K.cond rfl (fun ht27 => ?_) (fun ht27 => ?_)
 ·try replace ht27 := Kq.oT ht27
  refine K.ret (K.iA ?_)
  refine K.wA (fun w _ => K.rB rfl w) ?_
  have htr : (trS false iv nts f i Bm true ls (fd, bt)) = (fd, bt) := tr_cut ht27
  exact K.retsU ((Q, c1), (R, c2)) trivial rfl (by rw [htr]; exact (Kq.sc (Kq.sc (Kq.sc (Kq.sc (Kq.sc (Kq.sc (Kq.sc (Kq.sc (Kq.s1 Kq.s0))))))))))
 try replace ht27 := Kq.oF ht27
 refine K.skip (K.dA (K.seq (sr ?_)))
 iterate 2 refine qm ?_
 iterate 9 refine qs ?_
 refine qp (K.sA rfl) ?_
 refine sn (K.yA rfl ?_)
 refine K.seq ?_
 refine K.iC (A := Q) K.m3 (fun hq4 => ?_)
 refine K.gA (ql (K.fA gC rfl (K.m2) rfl) ?_)
 refine K.gB (K.lB cal_79 (fun F w hF hw => (by have hh := (K.Rd.own (e := K.eI) (xs := ls) hw (hF _ (K.m3)) hq4 (fun _ => rfl) (by decide)); exact Pn.c76 hh (by omega)))) rfl ?_
 rintro ⟨Q6, q6⟩ hq6
 refine zN ?_
 refine qt (K.store sz_26 rfl rfl rfl rfl (K.rp5)) ?_
 refine qt (K.store sz_4 rfl rfl rfl rfl (K.rp2)) ?_
 refine sn (K.ret (K.iA ?_))
 refine K.wA (fun w _ => K.rB rfl w) ?_
 have htr : (trS false iv nts f i Bm true ls (fd, bt)) = (true, ls) := tr_bad ht27
 refine K.weak (L' := _ :: _ :: _ :: _ :: _ :: _ :: _ :: _ :: _) ((Kq.sc (Kq.sc (Kq.sc (Kq.sc (Kq.sc (Kq.sc (Kq.s1 (Kq.sc (Kq.sc (Kq.s1 Kq.s0))))))))))) ?_
 refine K.permH (L' := K.blk p6 162 [.func (.func 97) #[] #[.pointer (some ⟨p1, 0, none⟩), .pointer (some ⟨p2, 0, none⟩), .pointer (some ⟨p3, 0, none⟩), .pointer (some ⟨p4, 0, none⟩), .pointer (some ⟨p5, 0, none⟩), .pointer (some ⟨p6, 0, none⟩)]] :: K.blk p1 4 [.bool true] :: K.blk p2 26 [.slice Q ls.length c1] :: K.row (.slice Q ls.length c1) 3 1 ls.length (ls.flatMap K.eI) :: K.blk p3 26 [.slice Q6 ls.length q6] :: K.row (.slice Q6 ls.length q6) 3 1 ls.length (ls.flatMap K.eI) :: K.blk p4 4 [.bool false] :: K.blk p5 117 [.int .i64 iv, .slice A pts.length c, .slice B nts.length d] :: T) (Kq.pz ((Kq.pz ((Kq.pz ((Kq.pz ((Kq.pz (Kq.p0)))))))))) ?_
 exact K.retsU ((Q, c1), (Q6, q6)) trivial rfl (by rw [htr]; exact List.Sublist.refl _)

set_option maxRecDepth 100000 in
set_option maxHeartbeats 4000000 in
theorem c97_t0 {iv : Int} {pts : List ByteArray} {nts : List NtT} {A B : Option Addr} {c d : Nat} {p1 p2 p3 p4 p5 p6 : Nat} {w0 : World} (hN : K.Rd w0 B 5 eO nts) (g : GoodS iv pts nts) {i n : Nat} {ls bt : List Int} {fd : Bool} {Bm : List Int} {lv : List Value} {Q R : Option Addr} {c1 c2 : Nat} {T : List K.Chunk} {w : World} (hst : K.St w0 (K.blk p6 162 [.func (.func 97) #[] #[.pointer (some ⟨p1, 0, none⟩), .pointer (some ⟨p2, 0, none⟩), .pointer (some ⟨p3, 0, none⟩), .pointer (some ⟨p4, 0, none⟩), .pointer (some ⟨p5, 0, none⟩), .pointer (some ⟨p6, 0, none⟩)]] :: K.blk p1 4 [.bool fd] :: K.blk p2 26 [.slice Q n c1] :: K.row (.slice Q n c1) 3 1 n lv :: K.blk p3 26 [.slice R bt.length c2] :: K.row (.slice R bt.length c2) 3 1 bt.length (bt.flatMap K.eI) :: K.blk p4 4 [.bool true] :: K.blk p5 117 [.int .i64 iv, .slice A pts.length c, .slice B nts.length d] :: T) w) (hn : n = ls.length) (hlv : lv = ls.flatMap K.eI) (hcl : Cl Bm) (hli : ls.length ≤ i) (hf : i + 0 = nts.length) :
  Calls Tryz.prog 97 [.int .i64 (i : Int), .agg (K.mI Bm).toArray, .bool false, .pointer (some ⟨p1, 0, none⟩), .pointer (some ⟨p2, 0, none⟩), .pointer (some ⟨p3, 0, none⟩), .pointer (some ⟨p4, 0, none⟩), .pointer (some ⟨p5, 0, none⟩), .pointer (some ⟨p6, 0, none⟩)].toArray w (K.RetU (fun _ : (Option Addr × Nat) × (Option Addr × Nat) => True) (fun _ => .tuple #[]) w0 (fun z => K.blk p6 162 [.func (.func 97) #[] #[.pointer (some ⟨p1, 0, none⟩), .pointer (some ⟨p2, 0, none⟩), .pointer (some ⟨p3, 0, none⟩), .pointer (some ⟨p4, 0, none⟩), .pointer (some ⟨p5, 0, none⟩), .pointer (some ⟨p6, 0, none⟩)]] :: K.blk p1 4 [.bool (trS true iv nts 0 i Bm false ls (fd, bt)).1] :: K.blk p2 26 [.slice z.1.1 n z.1.2] :: K.row (.slice z.1.1 n z.1.2) 3 1 n lv :: K.blk p3 26 [.slice z.2.1 (trS true iv nts 0 i Bm false ls (fd, bt)).2.length z.2.2] :: K.row (.slice z.2.1 (trS true iv nts 0 i Bm false ls (fd, bt)).2.length z.2.2) 3 1 (trS true iv nts 0 i Bm false ls (fd, bt)).2.length ((trS true iv nts 0 i Bm false ls (fd, bt)).2.flatMap K.eI) :: K.blk p4 4 [.bool true] :: K.blk p5 117 [.int .i64 iv, .slice A pts.length c, .slice B nts.length d] :: T)) := by
 subst hn hlv
 have hgn := g.n
 have hgl := g.l
 refine K.enterU (args := [.int .i64 (i : Int), .agg (K.mI Bm).toArray, .bool false, .pointer (some ⟨p1, 0, none⟩), .pointer (some ⟨p2, 0, none⟩), .pointer (some ⟨p3, 0, none⟩), .pointer (some ⟨p4, 0, none⟩), .pointer (some ⟨p5, 0, none⟩), .pointer (some ⟨p6, 0, none⟩)]) Tryz.func97 rfl (n := 81) rfl hst ?_
 refine zR ?_
 refine sr ?_
 refine qn (K.box_mx rfl) fun b10 => ?_
 refine sn (K.seq (K.seq ?_))
 refine K.joinW [27] [14, 15, 16, 17, 18, 19, 20, 21, 22, 23, 24, 25, 26] (fun vi L => vi = [.bool (fd && decide (bt.length ≤ ls.length))] ∧ L = K.blk p6 162 [.func (.func 97) #[] #[.pointer (some ⟨p1, 0, none⟩), .pointer (some ⟨p2, 0, none⟩), .pointer (some ⟨p3, 0, none⟩), .pointer (some ⟨p4, 0, none⟩), .pointer (some ⟨p5, 0, none⟩), .pointer (some ⟨p6, 0, none⟩)]] :: K.blk p1 4 [.bool fd] :: K.blk p2 26 [.slice Q ls.length c1] :: K.row (.slice Q ls.length c1) 3 1 ls.length (ls.flatMap K.eI) :: K.blk p3 26 [.slice R bt.length c2] :: K.row (.slice R bt.length c2) 3 1 bt.length (bt.flatMap K.eI) :: K.blk p4 4 [.bool true] :: K.blk p5 117 [.int .i64 iv, .slice A pts.length c, .slice B nts.length d] :: K.blk b10 94 (K.mI Bm) :: T) ?_ ?_
 ·refine K.permH (L' := _ :: _ :: _ :: _ :: _ :: _ :: _ :: _ :: _ :: _) (Kq.pz ((Kq.pz ((Kq.pz ((Kq.pz ((Kq.pz ((Kq.pz ((Kq.pz ((Kq.pz (Kq.p0)))))))))))))))) ?_
  refine K.gA (ql (K.fA qC rfl (K.m1) rfl) ?_)
  refine qm ?_
  refine K.split 15 rfl (fun hg15 => ?_) (fun hg15 => ?_)
  ·try replace hg15 := Kq.oT hg15
   refine ql (K.fA gC rfl (K.m2) rfl) ?_
   refine qp (K.aB yB rfl) ?_
   refine ql (K.fA gC rfl (K.m4) rfl) ?_
   refine qp (K.aB yB rfl) ?_
   refine qp (K.geq rfl rfl) ?_
   refine qp (K.sA rfl) ?_
   refine qm ?_
   refine K.split 22 rfl (fun hg22 => ?_) (fun hg22 => ?_)
   ·try replace hg22 := Kq.oT hg22
    iterate 4 refine qs ?_
    refine qp (K.sA rfl) ?_
    refine K.lA ?_
    exact K.sB (L' := K.blk p6 162 [.func (.func 97) #[] #[.pointer (some ⟨p1, 0, none⟩), .pointer (some ⟨p2, 0, none⟩), .pointer (some ⟨p3, 0, none⟩), .pointer (some ⟨p4, 0, none⟩), .pointer (some ⟨p5, 0, none⟩), .pointer (some ⟨p6, 0, none⟩)]] :: K.blk p1 4 [.bool fd] :: K.blk p2 26 [.slice Q ls.length c1] :: K.row (.slice Q ls.length c1) 3 1 ls.length (ls.flatMap K.eI) :: K.blk p3 26 [.slice R bt.length c2] :: K.row (.slice R bt.length c2) 3 1 bt.length (bt.flatMap K.eI) :: K.blk p4 4 [.bool true] :: K.blk p5 117 [.int .i64 iv, .slice A pts.length c, .slice B nts.length d] :: K.blk b10 94 (K.mI Bm) :: T) [.bool true] ⟨congrArg (fun b : Bool => [Value.bool b]) (by rw [hg15, decide_eq_true (by omega)]; rfl), rfl⟩ (K.st_sub (Kq.s0)) (by kernel_rfl)
   try replace hg22 := Kq.oF hg22
   refine ql (K.fA qC rfl (K.m6) rfl) ?_
   iterate 2 refine qm ?_
   refine qp (K.sA rfl) ?_
   refine qp (K.dB rfl) ?_
   refine K.lA ?_
   exact K.sB (L' := K.blk p6 162 [.func (.func 97) #[] #[.pointer (some ⟨p1, 0, none⟩), .pointer (some ⟨p2, 0, none⟩), .pointer (some ⟨p3, 0, none⟩), .pointer (some ⟨p4, 0, none⟩), .pointer (some ⟨p5, 0, none⟩), .pointer (some ⟨p6, 0, none⟩)]] :: K.blk p1 4 [.bool fd] :: K.blk p2 26 [.slice Q ls.length c1] :: K.row (.slice Q ls.length c1) 3 1 ls.length (ls.flatMap K.eI) :: K.blk p3 26 [.slice R bt.length c2] :: K.row (.slice R bt.length c2) 3 1 bt.length (bt.flatMap K.eI) :: K.blk p4 4 [.bool true] :: K.blk p5 117 [.int .i64 iv, .slice A pts.length c, .slice B nts.length d] :: K.blk b10 94 (K.mI Bm) :: T) [.bool false] ⟨congrArg (fun b : Bool => [Value.bool b]) (by rw [hg15, decide_eq_false (by omega)]; rfl), rfl⟩ (K.st_sub (Kq.s0)) (by kernel_rfl)
  try replace hg15 := Kq.oF hg15
  iterate 5 refine qs ?_
  refine qp (K.dB rfl) ?_
  refine qm ?_
  refine ql (K.fA qC rfl (K.m6) rfl) ?_
  iterate 2 refine qm ?_
  refine qp (K.sA rfl) ?_
  refine qp (K.dB rfl) ?_
  refine K.lA ?_
  exact K.sB (L' := K.blk p6 162 [.func (.func 97) #[] #[.pointer (some ⟨p1, 0, none⟩), .pointer (some ⟨p2, 0, none⟩), .pointer (some ⟨p3, 0, none⟩), .pointer (some ⟨p4, 0, none⟩), .pointer (some ⟨p5, 0, none⟩), .pointer (some ⟨p6, 0, none⟩)]] :: K.blk p1 4 [.bool fd] :: K.blk p2 26 [.slice Q ls.length c1] :: K.row (.slice Q ls.length c1) 3 1 ls.length (ls.flatMap K.eI) :: K.blk p3 26 [.slice R bt.length c2] :: K.row (.slice R bt.length c2) 3 1 bt.length (bt.flatMap K.eI) :: K.blk p4 4 [.bool true] :: K.blk p5 117 [.int .i64 iv, .slice A pts.length c, .slice B nts.length d] :: K.blk b10 94 (K.mI Bm) :: T) [.bool false] ⟨congrArg (fun b : Bool => [Value.bool b]) (by rw [hg15]; rfl), rfl⟩ (K.st_sub (Kq.s0)) (by kernel_rfl)
 intro vi vr L hJ
 obtain ⟨rfl, rfl⟩ := hJ
 refine zY ?_
 refine K.dA ?_
 refine K.cond rfl (fun ht27 => ?_) (fun ht27 => ?_)
 ·try replace ht27 := Kq.oT ht27
  refine K.ret (K.iA ?_)
  refine K.wA (fun w _ => K.rB rfl w) ?_
  have htr : (trS true iv nts 0 i Bm false ls (fd, bt)) = (fd, bt) := tr_cut ht27
  exact K.retsU ((Q, c1), (R, c2)) trivial rfl (by rw [htr]; exact (Kq.sc (Kq.sc (Kq.sc (Kq.sc (Kq.sc (Kq.sc (Kq.sc (Kq.sc (Kq.s1 Kq.s0))))))))))
 try replace ht27 := Kq.oF ht27
 refine K.skip (K.dA (K.seq (sr ?_)))
 iterate 2 refine qm ?_
 refine ql (K.fA qC rfl (K.m6) rfl) ?_
 iterate 2 refine qm ?_
 refine qp (K.aA fo_117_0 rfl) ?_
 refine qp (K.aA fo_25_2 rfl) ?_
 refine ql (K.fA one_23 rfl (K.m7) rfl) ?_
 refine qp (K.aB sl_23 rfl) ?_
 refine qp (K.Pure.eq (K.eql rfl rfl) (show _ = Value.bool true from congrArg Value.bool (decide_eq_true (by omega)))) ?_
 refine qp (K.sA rfl) ?_
 refine qp (K.dB rfl) ?_
 refine sn (K.yA rfl ?_)
 refine K.seq ?_
 refine K.iC (A := Q) K.m3 (fun hq4 => ?_)
 refine K.gA (ql (K.fA gC rfl (K.m2) rfl) ?_)
 refine K.gB (K.lB cal_79 (fun F w hF hw => (by have hh := (K.Rd.own (e := K.eI) (xs := ls) hw (hF _ (K.m3)) hq4 (fun _ => rfl) (by decide)); exact Pn.c76 hh (by omega)))) rfl ?_
 rintro ⟨Q6, q6⟩ hq6
 refine zN ?_
 refine qt (K.store sz_26 rfl rfl rfl rfl (K.rp5)) ?_
 refine qt (K.store sz_4 rfl rfl rfl rfl (K.rp2)) ?_
 refine sn (K.ret (K.iA ?_))
 refine K.wA (fun w _ => K.rB rfl w) ?_
 have htr : (trS true iv nts 0 i Bm false ls (fd, bt)) = (true, ls) := tr_end ht27 (by omega)
 refine K.weak (L' := _ :: _ :: _ :: _ :: _ :: _ :: _ :: _ :: _) ((Kq.sc (Kq.sc (Kq.sc (Kq.sc (Kq.sc (Kq.sc (Kq.s1 (Kq.sc (Kq.sc (Kq.s1 Kq.s0))))))))))) ?_
 refine K.permH (L' := K.blk p6 162 [.func (.func 97) #[] #[.pointer (some ⟨p1, 0, none⟩), .pointer (some ⟨p2, 0, none⟩), .pointer (some ⟨p3, 0, none⟩), .pointer (some ⟨p4, 0, none⟩), .pointer (some ⟨p5, 0, none⟩), .pointer (some ⟨p6, 0, none⟩)]] :: K.blk p1 4 [.bool true] :: K.blk p2 26 [.slice Q ls.length c1] :: K.row (.slice Q ls.length c1) 3 1 ls.length (ls.flatMap K.eI) :: K.blk p3 26 [.slice Q6 ls.length q6] :: K.row (.slice Q6 ls.length q6) 3 1 ls.length (ls.flatMap K.eI) :: K.blk p4 4 [.bool true] :: K.blk p5 117 [.int .i64 iv, .slice A pts.length c, .slice B nts.length d] :: T) (Kq.pz ((Kq.pz ((Kq.pz ((Kq.pz ((Kq.pz (Kq.p0)))))))))) ?_
 exact K.retsU ((Q, c1), (Q6, q6)) trivial rfl (by rw [htr]; exact List.Sublist.refl _)

set_option maxRecDepth 100000 in
set_option maxHeartbeats 4000000 in
theorem c97_f0 {iv : Int} {pts : List ByteArray} {nts : List NtT} {A B : Option Addr} {c d : Nat} {p1 p2 p3 p4 p5 p6 : Nat} {w0 : World} (hN : K.Rd w0 B 5 eO nts) (g : GoodS iv pts nts) {i n : Nat} {ls bt : List Int} {fd : Bool} {Bm : List Int} {lv : List Value} {Q R : Option Addr} {c1 c2 : Nat} {T : List K.Chunk} {w : World} (hst : K.St w0 (K.blk p6 162 [.func (.func 97) #[] #[.pointer (some ⟨p1, 0, none⟩), .pointer (some ⟨p2, 0, none⟩), .pointer (some ⟨p3, 0, none⟩), .pointer (some ⟨p4, 0, none⟩), .pointer (some ⟨p5, 0, none⟩), .pointer (some ⟨p6, 0, none⟩)]] :: K.blk p1 4 [.bool fd] :: K.blk p2 26 [.slice Q n c1] :: K.row (.slice Q n c1) 3 1 n lv :: K.blk p3 26 [.slice R bt.length c2] :: K.row (.slice R bt.length c2) 3 1 bt.length (bt.flatMap K.eI) :: K.blk p4 4 [.bool false] :: K.blk p5 117 [.int .i64 iv, .slice A pts.length c, .slice B nts.length d] :: T) w) (hn : n = ls.length) (hlv : lv = ls.flatMap K.eI) (hcl : Cl Bm) (hli : ls.length ≤ i) (hf : i + 0 = nts.length) :
  Calls Tryz.prog 97 [.int .i64 (i : Int), .agg (K.mI Bm).toArray, .bool false, .pointer (some ⟨p1, 0, none⟩), .pointer (some ⟨p2, 0, none⟩), .pointer (some ⟨p3, 0, none⟩), .pointer (some ⟨p4, 0, none⟩), .pointer (some ⟨p5, 0, none⟩), .pointer (some ⟨p6, 0, none⟩)].toArray w (K.RetU (fun _ : (Option Addr × Nat) × (Option Addr × Nat) => True) (fun _ => .tuple #[]) w0 (fun z => K.blk p6 162 [.func (.func 97) #[] #[.pointer (some ⟨p1, 0, none⟩), .pointer (some ⟨p2, 0, none⟩), .pointer (some ⟨p3, 0, none⟩), .pointer (some ⟨p4, 0, none⟩), .pointer (some ⟨p5, 0, none⟩), .pointer (some ⟨p6, 0, none⟩)]] :: K.blk p1 4 [.bool (trS false iv nts 0 i Bm false ls (fd, bt)).1] :: K.blk p2 26 [.slice z.1.1 n z.1.2] :: K.row (.slice z.1.1 n z.1.2) 3 1 n lv :: K.blk p3 26 [.slice z.2.1 (trS false iv nts 0 i Bm false ls (fd, bt)).2.length z.2.2] :: K.row (.slice z.2.1 (trS false iv nts 0 i Bm false ls (fd, bt)).2.length z.2.2) 3 1 (trS false iv nts 0 i Bm false ls (fd, bt)).2.length ((trS false iv nts 0 i Bm false ls (fd, bt)).2.flatMap K.eI) :: K.blk p4 4 [.bool false] :: K.blk p5 117 [.int .i64 iv, .slice A pts.length c, .slice B nts.length d] :: T)) := by
 subst hn hlv
 have hgn := g.n
 have hgl := g.l
 refine K.enterU (args := [.int .i64 (i : Int), .agg (K.mI Bm).toArray, .bool false, .pointer (some ⟨p1, 0, none⟩), .pointer (some ⟨p2, 0, none⟩), .pointer (some ⟨p3, 0, none⟩), .pointer (some ⟨p4, 0, none⟩), .pointer (some ⟨p5, 0, none⟩), .pointer (some ⟨p6, 0, none⟩)]) Tryz.func97 rfl (n := 81) rfl hst ?_
 refine zR ?_
 refine sr ?_
 refine qn (K.box_mx rfl) fun b10 => ?_
 refine sn (K.seq (K.seq ?_))
 refine K.joinW [27] [14, 15, 16, 17, 18, 19, 20, 21, 22, 23, 24, 25, 26] (fun vi L => vi = [.bool (fd && decide (bt.length ≤ ls.length))] ∧ L = K.blk p6 162 [.func (.func 97) #[] #[.pointer (some ⟨p1, 0, none⟩), .pointer (some ⟨p2, 0, none⟩), .pointer (some ⟨p3, 0, none⟩), .pointer (some ⟨p4, 0, none⟩), .pointer (some ⟨p5, 0, none⟩), .pointer (some ⟨p6, 0, none⟩)]] :: K.blk p1 4 [.bool fd] :: K.blk p2 26 [.slice Q ls.length c1] :: K.row (.slice Q ls.length c1) 3 1 ls.length (ls.flatMap K.eI) :: K.blk p3 26 [.slice R bt.length c2] :: K.row (.slice R bt.length c2) 3 1 bt.length (bt.flatMap K.eI) :: K.blk p4 4 [.bool false] :: K.blk p5 117 [.int .i64 iv, .slice A pts.length c, .slice B nts.length d] :: K.blk b10 94 (K.mI Bm) :: T) ?_ ?_
 ·refine K.permH (L' := _ :: _ :: _ :: _ :: _ :: _ :: _ :: _ :: _ :: _) (Kq.pz ((Kq.pz ((Kq.pz ((Kq.pz ((Kq.pz ((Kq.pz ((Kq.pz ((Kq.pz (Kq.p0)))))))))))))))) ?_
  refine K.gA (ql (K.fA qC rfl (K.m1) rfl) ?_)
  refine qm ?_
  refine K.split 15 rfl (fun hg15 => ?_) (fun hg15 => ?_)
  ·try replace hg15 := Kq.oT hg15
   refine ql (K.fA gC rfl (K.m2) rfl) ?_
   refine qp (K.aB yB rfl) ?_
   refine ql (K.fA gC rfl (K.m4) rfl) ?_
   refine qp (K.aB yB rfl) ?_
   refine qp (K.geq rfl rfl) ?_
   refine qp (K.sA rfl) ?_
   refine qm ?_
   refine K.split 22 rfl (fun hg22 => ?_) (fun hg22 => ?_)
   ·try replace hg22 := Kq.oT hg22
    iterate 4 refine qs ?_
    refine qp (K.sA rfl) ?_
    refine K.lA ?_
    exact K.sB (L' := K.blk p6 162 [.func (.func 97) #[] #[.pointer (some ⟨p1, 0, none⟩), .pointer (some ⟨p2, 0, none⟩), .pointer (some ⟨p3, 0, none⟩), .pointer (some ⟨p4, 0, none⟩), .pointer (some ⟨p5, 0, none⟩), .pointer (some ⟨p6, 0, none⟩)]] :: K.blk p1 4 [.bool fd] :: K.blk p2 26 [.slice Q ls.length c1] :: K.row (.slice Q ls.length c1) 3 1 ls.length (ls.flatMap K.eI) :: K.blk p3 26 [.slice R bt.length c2] :: K.row (.slice R bt.length c2) 3 1 bt.length (bt.flatMap K.eI) :: K.blk p4 4 [.bool false] :: K.blk p5 117 [.int .i64 iv, .slice A pts.length c, .slice B nts.length d] :: K.blk b10 94 (K.mI Bm) :: T) [.bool true] ⟨congrArg (fun b : Bool => [Value.bool b]) (by rw [hg15, decide_eq_true (by omega)]; rfl), rfl⟩ (K.st_sub (Kq.s0)) (by kernel_rfl)
   try replace hg22 := Kq.oF hg22
   refine ql (K.fA qC rfl (K.m6) rfl) ?_
   refine qm ?_
   refine qs ?_
   refine qp (K.dB rfl) ?_
   refine qp (K.dB rfl) ?_
   refine K.lA ?_
   exact K.sB (L' := K.blk p6 162 [.func (.func 97) #[] #[.pointer (some ⟨p1, 0, none⟩), .pointer (some ⟨p2, 0, none⟩), .pointer (some ⟨p3, 0, none⟩), .pointer (some ⟨p4, 0, none⟩), .pointer (some ⟨p5, 0, none⟩), .pointer (some ⟨p6, 0, none⟩)]] :: K.blk p1 4 [.bool fd] :: K.blk p2 26 [.slice Q ls.length c1] :: K.row (.slice Q ls.length c1) 3 1 ls.length (ls.flatMap K.eI) :: K.blk p3 26 [.slice R bt.length c2] :: K.row (.slice R bt.length c2) 3 1 bt.length (bt.flatMap K.eI) :: K.blk p4 4 [.bool false] :: K.blk p5 117 [.int .i64 iv, .slice A pts.length c, .slice B nts.length d] :: K.blk b10 94 (K.mI Bm) :: T) [.bool false] ⟨congrArg (fun b : Bool => [Value.bool b]) (by rw [hg15, decide_eq_false (by omega)]; rfl), rfl⟩ (K.st_sub (Kq.s0)) (by kernel_rfl)
  try replace hg15 := Kq.oF hg15
  iterate 5 refine qs ?_
  refine qp (K.dB rfl) ?_
  refine qm ?_
  refine ql (K.fA qC rfl (K.m6) rfl) ?_
  refine qm ?_
  refine qs ?_
  refine qp (K.dB rfl) ?_
  refine qp (K.dB rfl) ?_
  refine K.lA ?_
  exact K.sB (L' := K.blk p6 162 [.func (.func 97) #[] #[.pointer (some ⟨p1, 0, none⟩), .pointer (some ⟨p2, 0, none⟩), .pointer (some ⟨p3, 0, none⟩), .pointer (some ⟨p4, 0, none⟩), .pointer (some ⟨p5, 0, none⟩), .pointer (some ⟨p6, 0, none⟩)]] :: K.blk p1 4 [.bool fd] :: K.blk p2 26 [.slice Q ls.length c1] :: K.row (.slice Q ls.length c1) 3 1 ls.length (ls.flatMap K.eI) :: K.blk p3 26 [.slice R bt.length c2] :: K.row (.slice R bt.length c2) 3 1 bt.length (bt.flatMap K.eI) :: K.blk p4 4 [.bool false] :: K.blk p5 117 [.int .i64 iv, .slice A pts.length c, .slice B nts.length d] :: K.blk b10 94 (K.mI Bm) :: T) [.bool false] ⟨congrArg (fun b : Bool => [Value.bool b]) (by rw [hg15]; rfl), rfl⟩ (K.st_sub (Kq.s0)) (by kernel_rfl)
 intro vi vr L hJ
 obtain ⟨rfl, rfl⟩ := hJ
 refine zY ?_
 refine K.dA ?_
 refine K.cond rfl (fun ht27 => ?_) (fun ht27 => ?_)
 ·try replace ht27 := Kq.oT ht27
  refine K.ret (K.iA ?_)
  refine K.wA (fun w _ => K.rB rfl w) ?_
  have htr : (trS false iv nts 0 i Bm false ls (fd, bt)) = (fd, bt) := tr_cut ht27
  exact K.retsU ((Q, c1), (R, c2)) trivial rfl (by rw [htr]; exact (Kq.sc (Kq.sc (Kq.sc (Kq.sc (Kq.sc (Kq.sc (Kq.sc (Kq.sc (Kq.s1 Kq.s0))))))))))
 try replace ht27 := Kq.oF ht27
 refine K.skip (K.dA (K.seq (sr ?_)))
 iterate 2 refine qm ?_
 refine ql (K.fA qC rfl (K.m6) rfl) ?_
 refine qm ?_
 iterate 6 refine qs ?_
 refine qp (K.dB rfl) ?_
 refine qp (K.dB rfl) ?_
 refine sn (K.oA rfl ?_)
 refine K.skip (K.dA (K.seq (sr (qm ?_))))
 refine qp (K.aA fo_117_0 rfl) ?_
 refine qp (K.aA fo_25_2 rfl) ?_
 refine ql (K.fA one_23 rfl (K.m7) rfl) ?_
 refine qp (K.aB sl_23 rfl) ?_
 refine qp (K.Pure.eq (K.eql rfl rfl) (show _ = Value.bool true from congrArg Value.bool (decide_eq_true (by omega)))) ?_
 refine sn (K.yA rfl ?_)
 refine K.ret (K.iA ?_)
 refine K.wA (fun w _ => K.rB rfl w) ?_
 have htr : (trS false iv nts 0 i Bm false ls (fd, bt)) = (fd, bt) := tr_none ht27
 exact K.retsU ((Q, c1), (R, c2)) trivial rfl (by rw [htr]; exact (Kq.sc (Kq.sc (Kq.sc (Kq.sc (Kq.sc (Kq.sc (Kq.sc (Kq.sc (Kq.s1 Kq.s0))))))))))

set_option maxRecDepth 100000 in
set_option maxHeartbeats 4000000 in
theorem c97_ts {iv : Int} {pts : List ByteArray} {nts : List NtT} {A B : Option Addr} {c d : Nat} {p1 p2 p3 p4 p5 p6 : Nat} {w0 : World} (hN : K.Rd w0 B 5 eO nts) (g : GoodS iv pts nts) {f : Nat} (IH : ∀ bad, Go97 iv pts nts A B c d p1 p2 p3 p4 p5 p6 true bad f w0) {i n : Nat} {ls bt : List Int} {fd : Bool} {Bm : List Int} {lv : List Value} {Q R : Option Addr} {c1 c2 : Nat} {T : List K.Chunk} {w : World} (hst : K.St w0 (K.blk p6 162 [.func (.func 97) #[] #[.pointer (some ⟨p1, 0, none⟩), .pointer (some ⟨p2, 0, none⟩), .pointer (some ⟨p3, 0, none⟩), .pointer (some ⟨p4, 0, none⟩), .pointer (some ⟨p5, 0, none⟩), .pointer (some ⟨p6, 0, none⟩)]] :: K.blk p1 4 [.bool fd] :: K.blk p2 26 [.slice Q n c1] :: K.row (.slice Q n c1) 3 1 n lv :: K.blk p3 26 [.slice R bt.length c2] :: K.row (.slice R bt.length c2) 3 1 bt.length (bt.flatMap K.eI) :: K.blk p4 4 [.bool true] :: K.blk p5 117 [.int .i64 iv, .slice A pts.length c, .slice B nts.length d] :: T) w) (hn : n = ls.length) (hlv : lv = ls.flatMap K.eI) (hcl : Cl Bm) (hli : ls.length ≤ i) (hf : i + (f + 1) = nts.length) :
  Calls Tryz.prog 97 [.int .i64 (i : Int), .agg (K.mI Bm).toArray, .bool false, .pointer (some ⟨p1, 0, none⟩), .pointer (some ⟨p2, 0, none⟩), .pointer (some ⟨p3, 0, none⟩), .pointer (some ⟨p4, 0, none⟩), .pointer (some ⟨p5, 0, none⟩), .pointer (some ⟨p6, 0, none⟩)].toArray w (K.RetU (fun _ : (Option Addr × Nat) × (Option Addr × Nat) => True) (fun _ => .tuple #[]) w0 (fun z => K.blk p6 162 [.func (.func 97) #[] #[.pointer (some ⟨p1, 0, none⟩), .pointer (some ⟨p2, 0, none⟩), .pointer (some ⟨p3, 0, none⟩), .pointer (some ⟨p4, 0, none⟩), .pointer (some ⟨p5, 0, none⟩), .pointer (some ⟨p6, 0, none⟩)]] :: K.blk p1 4 [.bool (trS true iv nts (f + 1) i Bm false ls (fd, bt)).1] :: K.blk p2 26 [.slice z.1.1 n z.1.2] :: K.row (.slice z.1.1 n z.1.2) 3 1 n lv :: K.blk p3 26 [.slice z.2.1 (trS true iv nts (f + 1) i Bm false ls (fd, bt)).2.length z.2.2] :: K.row (.slice z.2.1 (trS true iv nts (f + 1) i Bm false ls (fd, bt)).2.length z.2.2) 3 1 (trS true iv nts (f + 1) i Bm false ls (fd, bt)).2.length ((trS true iv nts (f + 1) i Bm false ls (fd, bt)).2.flatMap K.eI) :: K.blk p4 4 [.bool true] :: K.blk p5 117 [.int .i64 iv, .slice A pts.length c, .slice B nts.length d] :: T)) := by
 subst hn hlv
 have hgn := g.n
 have hgl := g.l
 refine K.enterU (args := [.int .i64 (i : Int), .agg (K.mI Bm).toArray, .bool false, .pointer (some ⟨p1, 0, none⟩), .pointer (some ⟨p2, 0, none⟩), .pointer (some ⟨p3, 0, none⟩), .pointer (some ⟨p4, 0, none⟩), .pointer (some ⟨p5, 0, none⟩), .pointer (some ⟨p6, 0, none⟩)]) Tryz.func97 rfl (n := 81) rfl hst ?_
 refine zR ?_
 refine sr ?_
 refine qn (K.box_mx rfl) fun b10 => ?_
 refine sn (K.seq (K.seq ?_))
 refine K.joinW [27] [14, 15, 16, 17, 18, 19, 20, 21, 22, 23, 24, 25, 26] (fun vi L => vi = [.bool (fd && decide (bt.length ≤ ls.length))] ∧ L = K.blk p6 162 [.func (.func 97) #[] #[.pointer (some ⟨p1, 0, none⟩), .pointer (some ⟨p2, 0, none⟩), .pointer (some ⟨p3, 0, none⟩), .pointer (some ⟨p4, 0, none⟩), .pointer (some ⟨p5, 0, none⟩), .pointer (some ⟨p6, 0, none⟩)]] :: K.blk p1 4 [.bool fd] :: K.blk p2 26 [.slice Q ls.length c1] :: K.row (.slice Q ls.length c1) 3 1 ls.length (ls.flatMap K.eI) :: K.blk p3 26 [.slice R bt.length c2] :: K.row (.slice R bt.length c2) 3 1 bt.length (bt.flatMap K.eI) :: K.blk p4 4 [.bool true] :: K.blk p5 117 [.int .i64 iv, .slice A pts.length c, .slice B nts.length d] :: K.blk b10 94 (K.mI Bm) :: T) ?_ ?_
 ·refine K.permH (L' := _ :: _ :: _ :: _ :: _ :: _ :: _ :: _ :: _ :: _) (Kq.pz ((Kq.pz ((Kq.pz ((Kq.pz ((Kq.pz ((Kq.pz ((Kq.pz ((Kq.pz (Kq.p0)))))))))))))))) ?_
  refine K.gA (ql (K.fA qC rfl (K.m1) rfl) ?_)
  refine qm ?_
  refine K.split 15 rfl (fun hg15 => ?_) (fun hg15 => ?_)
  ·try replace hg15 := Kq.oT hg15
   refine ql (K.fA gC rfl (K.m2) rfl) ?_
   refine qp (K.aB yB rfl) ?_
   refine ql (K.fA gC rfl (K.m4) rfl) ?_
   refine qp (K.aB yB rfl) ?_
   refine qp (K.geq rfl rfl) ?_
   refine qp (K.sA rfl) ?_
   refine qm ?_
   refine K.split 22 rfl (fun hg22 => ?_) (fun hg22 => ?_)
   ·try replace hg22 := Kq.oT hg22
    iterate 4 refine qs ?_
    refine qp (K.sA rfl) ?_
    refine K.lA ?_
    exact K.sB (L' := K.blk p6 162 [.func (.func 97) #[] #[.pointer (some ⟨p1, 0, none⟩), .pointer (some ⟨p2, 0, none⟩), .pointer (some ⟨p3, 0, none⟩), .pointer (some ⟨p4, 0, none⟩), .pointer (some ⟨p5, 0, none⟩), .pointer (some ⟨p6, 0, none⟩)]] :: K.blk p1 4 [.bool fd] :: K.blk p2 26 [.slice Q ls.length c1] :: K.row (.slice Q ls.length c1) 3 1 ls.length (ls.flatMap K.eI) :: K.blk p3 26 [.slice R bt.length c2] :: K.row (.slice R bt.length c2) 3 1 bt.length (bt.flatMap K.eI) :: K.blk p4 4 [.bool true] :: K.blk p5 117 [.int .i64 iv, .slice A pts.length c, .slice B nts.length d] :: K.blk b10 94 (K.mI Bm) :: T) [.bool true] ⟨congrArg (fun b : Bool => [Value.bool b]) (by rw [hg15, decide_eq_true (by omega)]; rfl), rfl⟩ (K.st_sub (Kq.s0)) (by kernel_rfl)
   try replace hg22 := Kq.oF hg22
   refine ql (K.fA qC rfl (K.m6) rfl) ?_
   iterate 2 refine qm ?_
   refine qp (K.sA rfl) ?_
   refine qp (K.dB rfl) ?_
   refine K.lA ?_
   exact K.sB (L' := K.blk p6 162 [.func (.func 97) #[] #[.pointer (some ⟨p1, 0, none⟩), .pointer (some ⟨p2, 0, none⟩), .pointer (some ⟨p3, 0, none⟩), .pointer (some ⟨p4, 0, none⟩), .pointer (some ⟨p5, 0, none⟩), .pointer (some ⟨p6, 0, none⟩)]] :: K.blk p1 4 [.bool fd] :: K.blk p2 26 [.slice Q ls.length c1] :: K.row (.slice Q ls.length c1) 3 1 ls.length (ls.flatMap K.eI) :: K.blk p3 26 [.slice R bt.length c2] :: K.row (.slice R bt.length c2) 3 1 bt.length (bt.flatMap K.eI) :: K.blk p4 4 [.bool true] :: K.blk p5 117 [.int .i64 iv, .slice A pts.length c, .slice B nts.length d] :: K.blk b10 94 (K.mI Bm) :: T) [.bool false] ⟨congrArg (fun b : Bool => [Value.bool b]) (by rw [hg15, decide_eq_false (by omega)]; rfl), rfl⟩ (K.st_sub (Kq.s0)) (by kernel_rfl)
  try replace hg15 := Kq.oF hg15
  iterate 5 refine qs ?_
  refine qp (K.dB rfl) ?_
  refine qm ?_
  refine ql (K.fA qC rfl (K.m6) rfl) ?_
  iterate 2 refine qm ?_
  refine qp (K.sA rfl) ?_
  refine qp (K.dB rfl) ?_
  refine K.lA ?_
  exact K.sB (L' := K.blk p6 162 [.func (.func 97) #[] #[.pointer (some ⟨p1, 0, none⟩), .pointer (some ⟨p2, 0, none⟩), .pointer (some ⟨p3, 0, none⟩), .pointer (some ⟨p4, 0, none⟩), .pointer (some ⟨p5, 0, none⟩), .pointer (some ⟨p6, 0, none⟩)]] :: K.blk p1 4 [.bool fd] :: K.blk p2 26 [.slice Q ls.length c1] :: K.row (.slice Q ls.length c1) 3 1 ls.length (ls.flatMap K.eI) :: K.blk p3 26 [.slice R bt.length c2] :: K.row (.slice R bt.length c2) 3 1 bt.length (bt.flatMap K.eI) :: K.blk p4 4 [.bool true] :: K.blk p5 117 [.int .i64 iv, .slice A pts.length c, .slice B nts.length d] :: K.blk b10 94 (K.mI Bm) :: T) [.bool false] ⟨congrArg (fun b : Bool => [Value.bool b]) (by rw [hg15]; rfl), rfl⟩ (K.st_sub (Kq.s0)) (by kernel_rfl)
 intro vi vr L hJ
 obtain ⟨rfl, rfl⟩ := hJ
 refine zY ?_
 refine K.dA ?_
 refine K.cond rfl (fun ht27 => ?_) (fun ht27 => ?_)
 ·try replace ht27 := Kq.oT ht27
  refine K.ret (K.iA ?_)
  refine K.wA (fun w _ => K.rB rfl w) ?_
  have htr : (trS true iv nts (f + 1) i Bm false ls (fd, bt)) = (fd, bt) := tr_cut ht27
  exact K.retsU ((Q, c1), (R, c2)) trivial rfl (by rw [htr]; exact (Kq.sc (Kq.sc (Kq.sc (Kq.sc (Kq.sc (Kq.sc (Kq.sc (Kq.sc (Kq.s1 Kq.s0))))))))))
 try replace ht27 := Kq.oF ht27
 refine K.skip (K.dA (K.seq (sr ?_)))
 iterate 2 refine qm ?_
 refine ql (K.fA qC rfl (K.m6) rfl) ?_
 iterate 2 refine qm ?_
 refine qp (K.aA fo_117_0 rfl) ?_
 refine qp (K.aA fo_25_2 rfl) ?_
 refine ql (K.fA one_23 rfl (K.m7) rfl) ?_
 refine qp (K.aB sl_23 rfl) ?_
 refine qp (K.Pure.eq (K.eql rfl rfl) (show _ = Value.bool false from congrArg Value.bool (decide_eq_false (by omega)))) ?_
 refine qp (K.sA rfl) ?_
 refine qp (K.dB rfl) ?_
 refine sn (K.oA rfl ?_)
 refine K.skip (K.dA (K.seq (K.seq ?_)))
 have hk : i < nts.length := by omega
 refine K.gA (qm ?_)
 refine qp (K.aA fo_117_0 rfl) ?_
 refine qp (K.aA fo_25_2 rfl) ?_
 refine ql (K.fA one_23 rfl (K.m7) rfl) ?_
 refine qp (K.aB sl_23 rfl) ?_
 refine qp (K.Pure.eq (K.eql rfl rfl) (show _ = Value.bool false from congrArg Value.bool (decide_eq_false (by omega)))) ?_
 refine sn (K.oA rfl ?_)
 refine K.skip (K.dA (sr (ql (K.jA ag_117 rfl (K.m7) rfl) ?_)))
 refine ql (K.load_mx uC rfl ((K.m8)) (mx_len hcl.n)) ?_
 refine qm ?_
 refine qc (K.nA cal_63 (fun F w hF hw => c63 (hN.pass hw) g hk (by omega) hcl)) ?_
 refine qm ?_
 iterate 2 refine qx ?_
 refine qn (alloc_mx zr_94m) fun b12 => ?_
 refine qt (K.store_mx sz_94 rfl rfl (mx_len (wth_cl g.n.2 (nt_good (g.t i hk)).1 hcl).n) (mx_len zM_len) K.mI_one (K.rp0)) ?_
 refine zN ?_
 refine qa ?_
 refine sn (K.seq ?_)
 have hcl2 : Cl (wthB iv Bm (nts.getD i default) 0).1 := wth_cl g.n.2 (nt_good (g.t i hk)).1 hcl
 refine K.gA (ql (K.fA gC rfl (K.m3) rfl) ?_)
 refine qm ?_
 refine qn (K.buildSlice (bsIz _)) fun b57 => ?_
 refine K.xB (K.append el_26 rfl rfl (K.PtrL.own' (K.m0)) rfl rfl (by decide) (by omega) (by omega) (fun _ _ => K.rp5)) rfl ?_
 rintro ⟨g58, c58⟩ _
 refine zN ?_
 refine qt (K.store sz_26 rfl rfl rfl rfl (K.rp4)) ?_
 refine sn (K.seq (sr (ql (K.fA qC rfl (K.m8) rfl) ?_)))
 refine sn (K.yA rfl ?_)
 refine K.weak (Kq.s1 (Kq.sc (Kq.sc (Kq.sc (Kq.sc (Kq.sc (Kq.sc (Kq.sc (Kq.sc (Kq.sc (Kq.sc Kq.s0))))))))))) ?_
 refine K.permH (L' := _ :: _ :: _ :: _ :: _ :: _ :: _ :: _ :: _ :: _ :: _) (Kq.pz ((Kq.pz ((Kq.pz ((Kq.pz ((Kq.pz ((Kq.pz ((Kq.pz ((Kq.pz (Kq.p0)))))))))))))))) ?_
 refine K.gA (ql (K.fA one_162 rfl (K.m0) rfl) ?_)
 refine qm ?_
 refine qp (K.Pure.eq (K.tA rfl rfl (by omega)) (show _ = Value.int .i64 ((i + 1 : Nat) : Int) from rfl)) ?_
 refine ql (K.load_mx uC rfl ((K.m9)) (mx_len hcl.n)) ?_
 refine K.xB (K.callU (first := []) (cap := [.pointer (some ⟨p1, 0, none⟩), .pointer (some ⟨p2, 0, none⟩), .pointer (some ⟨p3, 0, none⟩), .pointer (some ⟨p4, 0, none⟩), .pointer (some ⟨p5, 0, none⟩), .pointer (some ⟨p6, 0, none⟩)]) rfl cal_97 (fun w hw => IH false (ls := (ls ++ [(i : Int)])) (n := (ls.length + 1)) (fd := fd) (bt := bt) (i := i + 1) (T := K.blk b12 94 (K.mI (wthB iv Bm (nts.getD i default) 0).1) :: K.blk b10 94 (K.mI Bm) :: T) hw (by first | rfl | (rw [List.length_append]; rfl)) (by first | rfl | exact eIs) hcl (by rw [List.length_append]; show ls.length + 1 ≤ i + 1; omega) (by omega))) rfl ?_
 rintro ⟨⟨xQ, xc⟩, ⟨xR, xd⟩⟩ _
 refine zN ?_
 refine sn (K.seq ?_)
 refine K.use_rowc (A := xQ) K.m3 (fun _ hc4 => ?_)
 refine K.gA (ql (K.fA gC rfl (K.m2) rfl) ?_)
 refine ql (K.fA gC rfl (K.m2) rfl) ?_
 refine qp (K.aB yB rfl) ?_
 refine qp (K.oB rfl rfl (by omega)) ?_
 refine K.mA (K.slice_hi ls.length yB rfl rfl (by omega) (by omega)) rfl ?_
 refine zN ?_
 refine qt (K.store sz_26 rfl rfl rfl rfl (K.rp2)) ?_
 refine sn (K.seq ?_)
 refine K.row_pop K.rp3 eIl ?_
 refine K.gA (ql (K.fA qC rfl (K.m6) rfl) ?_)
 refine sn (K.yA rfl ?_)
 refine K.gA (ql (K.fA one_162 rfl (K.m0) rfl) ?_)
 refine qm ?_
 refine qp (K.Pure.eq (K.tA rfl rfl (by omega)) (show _ = Value.int .i64 ((i + 1 : Nat) : Int) from rfl)) ?_
 refine ql (K.load_mx uC rfl ((K.m8)) (mx_len hcl2.n)) ?_
 refine qm ?_
 first | refine K.mA (K.fC rfl) rfl ?_ | refine K.mA (K.not_ rfl) rfl ?_
 refine zN ?_
 refine K.xB (K.callU (first := []) (cap := [.pointer (some ⟨p1, 0, none⟩), .pointer (some ⟨p2, 0, none⟩), .pointer (some ⟨p3, 0, none⟩), .pointer (some ⟨p4, 0, none⟩), .pointer (some ⟨p5, 0, none⟩), .pointer (some ⟨p6, 0, none⟩)]) rfl cal_97 (fun w hw => IH (!(wthB iv Bm (nts.getD i default) 0).2) (ls := ls) (n := ls.length) (fd := (trS true iv nts f (i + 1) Bm false (ls ++ [(i : Int)]) (fd, bt)).1) (bt := (trS true iv nts f (i + 1) Bm false (ls ++ [(i : Int)]) (fd, bt)).2) (i := i + 1) (T := K.blk b12 94 (K.mI (wthB iv Bm (nts.getD i default) 0).1) :: K.blk b10 94 (K.mI Bm) :: T) hw (by first | rfl | (rw [List.length_append]; rfl)) (by first | rfl | exact eIs) hcl2 (by omega) (by omega))) rfl ?_
 rintro ⟨⟨yQ, yc⟩, ⟨yR, yd⟩⟩ _
 refine zN ?_
 refine K.lA ?_
 refine K.end_normal (fun w _ => K.rB rfl w) ?_
 have htr : (trS true iv nts (f + 1) i Bm false ls (fd, bt)) = (trS true iv nts f (i + 1) (wthB iv Bm (nts.getD i default) 0).1 (!(wthB iv Bm (nts.getD i default) 0).2) ls (trS true iv nts f (i + 1) Bm false (ls ++ [(i : Int)]) (fd, bt))) := tr_t ht27 (by omega)
 exact K.retsU ((yQ, yc), (yR, yd)) trivial rfl (by rw [htr]; exact (Kq.sc (Kq.sc (Kq.sc (Kq.sc (Kq.sc (Kq.sc (Kq.sc (Kq.sc (Kq.s1 (Kq.s1 Kq.s0)))))))))))

set_option maxRecDepth 100000 in
set_option maxHeartbeats 4000000 in
theorem c97_fs {iv : Int} {pts : List ByteArray} {nts : List NtT} {A B : Option Addr} {c d : Nat} {p1 p2 p3 p4 p5 p6 : Nat} {w0 : World} (hN : K.Rd w0 B 5 eO nts) (g : GoodS iv pts nts) {f : Nat} (IH : ∀ bad, Go97 iv pts nts A B c d p1 p2 p3 p4 p5 p6 false bad f w0) {i n : Nat} {ls bt : List Int} {fd : Bool} {Bm : List Int} {lv : List Value} {Q R : Option Addr} {c1 c2 : Nat} {T : List K.Chunk} {w : World} (hst : K.St w0 (K.blk p6 162 [.func (.func 97) #[] #[.pointer (some ⟨p1, 0, none⟩), .pointer (some ⟨p2, 0, none⟩), .pointer (some ⟨p3, 0, none⟩), .pointer (some ⟨p4, 0, none⟩), .pointer (some ⟨p5, 0, none⟩), .pointer (some ⟨p6, 0, none⟩)]] :: K.blk p1 4 [.bool fd] :: K.blk p2 26 [.slice Q n c1] :: K.row (.slice Q n c1) 3 1 n lv :: K.blk p3 26 [.slice R bt.length c2] :: K.row (.slice R bt.length c2) 3 1 bt.length (bt.flatMap K.eI) :: K.blk p4 4 [.bool false] :: K.blk p5 117 [.int .i64 iv, .slice A pts.length c, .slice B nts.length d] :: T) w) (hn : n = ls.length) (hlv : lv = ls.flatMap K.eI) (hcl : Cl Bm) (hli : ls.length ≤ i) (hf : i + (f + 1) = nts.length) :
  Calls Tryz.prog 97 [.int .i64 (i : Int), .agg (K.mI Bm).toArray, .bool false, .pointer (some ⟨p1, 0, none⟩), .pointer (some ⟨p2, 0, none⟩), .pointer (some ⟨p3, 0, none⟩), .pointer (some ⟨p4, 0, none⟩), .pointer (some ⟨p5, 0, none⟩), .pointer (some ⟨p6, 0, none⟩)].toArray w (K.RetU (fun _ : (Option Addr × Nat) × (Option Addr × Nat) => True) (fun _ => .tuple #[]) w0 (fun z => K.blk p6 162 [.func (.func 97) #[] #[.pointer (some ⟨p1, 0, none⟩), .pointer (some ⟨p2, 0, none⟩), .pointer (some ⟨p3, 0, none⟩), .pointer (some ⟨p4, 0, none⟩), .pointer (some ⟨p5, 0, none⟩), .pointer (some ⟨p6, 0, none⟩)]] :: K.blk p1 4 [.bool (trS false iv nts (f + 1) i Bm false ls (fd, bt)).1] :: K.blk p2 26 [.slice z.1.1 n z.1.2] :: K.row (.slice z.1.1 n z.1.2) 3 1 n lv :: K.blk p3 26 [.slice z.2.1 (trS false iv nts (f + 1) i Bm false ls (fd, bt)).2.length z.2.2] :: K.row (.slice z.2.1 (trS false iv nts (f + 1) i Bm false ls (fd, bt)).2.length z.2.2) 3 1 (trS false iv nts (f + 1) i Bm false ls (fd, bt)).2.length ((trS false iv nts (f + 1) i Bm false ls (fd, bt)).2.flatMap K.eI) :: K.blk p4 4 [.bool false] :: K.blk p5 117 [.int .i64 iv, .slice A pts.length c, .slice B nts.length d] :: T)) := by
 subst hn hlv
 have hgn := g.n
 have hgl := g.l
 refine K.enterU (args := [.int .i64 (i : Int), .agg (K.mI Bm).toArray, .bool false, .pointer (some ⟨p1, 0, none⟩), .pointer (some ⟨p2, 0, none⟩), .pointer (some ⟨p3, 0, none⟩), .pointer (some ⟨p4, 0, none⟩), .pointer (some ⟨p5, 0, none⟩), .pointer (some ⟨p6, 0, none⟩)]) Tryz.func97 rfl (n := 81) rfl hst ?_
 refine zR ?_
 refine sr ?_
 refine qn (K.box_mx rfl) fun b10 => ?_
 refine sn (K.seq (K.seq ?_))
 refine K.joinW [27] [14, 15, 16, 17, 18, 19, 20, 21, 22, 23, 24, 25, 26] (fun vi L => vi = [.bool (fd && decide (bt.length ≤ ls.length))] ∧ L = K.blk p6 162 [.func (.func 97) #[] #[.pointer (some ⟨p1, 0, none⟩), .pointer (some ⟨p2, 0, none⟩), .pointer (some ⟨p3, 0, none⟩), .pointer (some ⟨p4, 0, none⟩), .pointer (some ⟨p5, 0, none⟩), .pointer (some ⟨p6, 0, none⟩)]] :: K.blk p1 4 [.bool fd] :: K.blk p2 26 [.slice Q ls.length c1] :: K.row (.slice Q ls.length c1) 3 1 ls.length (ls.flatMap K.eI) :: K.blk p3 26 [.slice R bt.length c2] :: K.row (.slice R bt.length c2) 3 1 bt.length (bt.flatMap K.eI) :: K.blk p4 4 [.bool false] :: K.blk p5 117 [.int .i64 iv, .slice A pts.length c, .slice B nts.length d] :: K.blk b10 94 (K.mI Bm) :: T) ?_ ?_
 ·refine K.permH (L' := _ :: _ :: _ :: _ :: _ :: _ :: _ :: _ :: _ :: _) (Kq.pz ((Kq.pz ((Kq.pz ((Kq.pz ((Kq.pz ((Kq.pz ((Kq.pz ((Kq.pz (Kq.p0)))))))))))))))) ?_
  refine K.gA (ql (K.fA qC rfl (K.m1) rfl) ?_)
  refine qm ?_
  refine K.split 15 rfl (fun hg15 => ?_) (fun hg15 => ?_)
  ·try replace hg15 := Kq.oT hg15
   refine ql (K.fA gC rfl (K.m2) rfl) ?_
   refine qp (K.aB yB rfl) ?_
   refine ql (K.fA gC rfl (K.m4) rfl) ?_
   refine qp (K.aB yB rfl) ?_
   refine qp (K.geq rfl rfl) ?_
   refine qp (K.sA rfl) ?_
   refine qm ?_
   refine K.split 22 rfl (fun hg22 => ?_) (fun hg22 => ?_)
   ·try replace hg22 := Kq.oT hg22
    iterate 4 refine qs ?_
    refine qp (K.sA rfl) ?_
    refine K.lA ?_
    exact K.sB (L' := K.blk p6 162 [.func (.func 97) #[] #[.pointer (some ⟨p1, 0, none⟩), .pointer (some ⟨p2, 0, none⟩), .pointer (some ⟨p3, 0, none⟩), .pointer (some ⟨p4, 0, none⟩), .pointer (some ⟨p5, 0, none⟩), .pointer (some ⟨p6, 0, none⟩)]] :: K.blk p1 4 [.bool fd] :: K.blk p2 26 [.slice Q ls.length c1] :: K.row (.slice Q ls.length c1) 3 1 ls.length (ls.flatMap K.eI) :: K.blk p3 26 [.slice R bt.length c2] :: K.row (.slice R bt.length c2) 3 1 bt.length (bt.flatMap K.eI) :: K.blk p4 4 [.bool false] :: K.blk p5 117 [.int .i64 iv, .slice A pts.length c, .slice B nts.length d] :: K.blk b10 94 (K.mI Bm) :: T) [.bool true] ⟨congrArg (fun b : Bool => [Value.bool b]) (by rw [hg15, decide_eq_true (by omega)]; rfl), rfl⟩ (K.st_sub (Kq.s0)) (by kernel_rfl)
   try replace hg22 := Kq.oF hg22
   refine ql (K.fA qC rfl (K.m6) rfl) ?_
   refine qm ?_
   refine qs ?_
   refine qp (K.dB rfl) ?_
   refine qp (K.dB rfl) ?_
   refine K.lA ?_
   exact K.sB (L' := K.blk p6 162 [.func (.func 97) #[] #[.pointer (some ⟨p1, 0, none⟩), .pointer (some ⟨p2, 0, none⟩), .pointer (some ⟨p3, 0, none⟩), .pointer (some ⟨p4, 0, none⟩), .pointer (some ⟨p5, 0, none⟩), .pointer (some ⟨p6, 0, none⟩)]] :: K.blk p1 4 [.bool fd] :: K.blk p2 26 [.slice Q ls.length c1] :: K.row (.slice Q ls.length c1) 3 1 ls.length (ls.flatMap K.eI) :: K.blk p3 26 [.slice R bt.length c2] :: K.row (.slice R bt.length c2) 3 1 bt.length (bt.flatMap K.eI) :: K.blk p4 4 [.bool false] :: K.blk p5 117 [.int .i64 iv, .slice A pts.length c, .slice B nts.length d] :: K.blk b10 94 (K.mI Bm) :: T) [.bool false] ⟨congrArg (fun b : Bool => [Value.bool b]) (by rw [hg15, decide_eq_false (by omega)]; rfl), rfl⟩ (K.st_sub (Kq.s0)) (by kernel_rfl)
  try replace hg15 := Kq.oF hg15
  iterate 5 refine qs ?_
  refine qp (K.dB rfl) ?_
  refine qm ?_
  refine ql (K.fA qC rfl (K.m6) rfl) ?_
  refine qm ?_
  refine qs ?_
  refine qp (K.dB rfl) ?_
  refine qp (K.dB rfl) ?_
  refine K.lA ?_
  exact K.sB (L' := K.blk p6 162 [.func (.func 97) #[] #[.pointer (some ⟨p1, 0, none⟩), .pointer (some ⟨p2, 0, none⟩), .pointer (some ⟨p3, 0, none⟩), .pointer (some ⟨p4, 0, none⟩), .pointer (some ⟨p5, 0, none⟩), .pointer (some ⟨p6, 0, none⟩)]] :: K.blk p1 4 [.bool fd] :: K.blk p2 26 [.slice Q ls.length c1] :: K.row (.slice Q ls.length c1) 3 1 ls.length (ls.flatMap K.eI) :: K.blk p3 26 [.slice R bt.length c2] :: K.row (.slice R bt.length c2) 3 1 bt.length (bt.flatMap K.eI) :: K.blk p4 4 [.bool false] :: K.blk p5 117 [.int .i64 iv, .slice A pts.length c, .slice B nts.length d] :: K.blk b10 94 (K.mI Bm) :: T) [.bool false] ⟨congrArg (fun b : Bool => [Value.bool b]) (by rw [hg15]; rfl), rfl⟩ (K.st_sub (Kq.s0)) (by kernel_rfl)
 intro vi vr L hJ
 obtain ⟨rfl, rfl⟩ := hJ
 refine zY ?_
 refine K.dA ?_
 refine K.cond rfl (fun ht27 => ?_) (fun ht27 => ?_)
 ·try replace ht27 := Kq.oT ht27
  refine K.ret (K.iA ?_)
  refine K.wA (fun w _ => K.rB rfl w) ?_
  have htr : (trS false iv nts (f + 1) i Bm false ls (fd, bt)) = (fd, bt) := tr_cut ht27
  exact K.retsU ((Q, c1), (R, c2)) trivial rfl (by rw [htr]; exact (Kq.sc (Kq.sc (Kq.sc (Kq.sc (Kq.sc (Kq.sc (Kq.sc (Kq.sc (Kq.s1 Kq.s0))))))))))
 try replace ht27 := Kq.oF ht27
 refine K.skip (K.dA (K.seq (sr ?_)))
 iterate 2 refine qm ?_
 refine ql (K.fA qC rfl (K.m6) rfl) ?_
 refine qm ?_
 iterate 6 refine qs ?_
 refine qp (K.dB rfl) ?_
 refine qp (K.dB rfl) ?_
 refine sn (K.oA rfl ?_)
 refine K.skip (K.dA (K.seq (K.seq ?_)))
 have hk : i < nts.length := by omega
 refine K.gA (qm ?_)
 refine qp (K.aA fo_117_0 rfl) ?_
 refine qp (K.aA fo_25_2 rfl) ?_
 refine ql (K.fA one_23 rfl (K.m7) rfl) ?_
 refine qp (K.aB sl_23 rfl) ?_
 refine qp (K.Pure.eq (K.eql rfl rfl) (show _ = Value.bool false from congrArg Value.bool (decide_eq_false (by omega)))) ?_
 refine sn (K.oA rfl ?_)
 refine K.skip (K.dA (sr (ql (K.jA ag_117 rfl (K.m7) rfl) ?_)))
 refine ql (K.load_mx uC rfl ((K.m8)) (mx_len hcl.n)) ?_
 refine qm ?_
 refine qc (K.nA cal_63 (fun F w hF hw => c63 (hN.pass hw) g hk (by omega) hcl)) ?_
 refine qm ?_
 iterate 2 refine qx ?_
 refine qn (alloc_mx zr_94m) fun b12 => ?_
 refine qt (K.store_mx sz_94 rfl rfl (mx_len (wth_cl g.n.2 (nt_good (g.t i hk)).1 hcl).n) (mx_len zM_len) K.mI_one (K.rp0)) ?_
 refine zN ?_
 refine qa ?_
 refine sn (K.seq ?_)
 have hcl2 : Cl (wthB iv Bm (nts.getD i default) 0).1 := wth_cl g.n.2 (nt_good (g.t i hk)).1 hcl
 refine K.gA (ql (K.fA gC rfl (K.m3) rfl) ?_)
 refine qm ?_
 refine qn (K.buildSlice (bsIz _)) fun b57 => ?_
 refine K.xB (K.append el_26 rfl rfl (K.PtrL.own' (K.m0)) rfl rfl (by decide) (by omega) (by omega) (fun _ _ => K.rp5)) rfl ?_
 rintro ⟨g58, c58⟩ _
 refine zN ?_
 refine qt (K.store sz_26 rfl rfl rfl rfl (K.rp4)) ?_
 refine sn (K.seq (sr (ql (K.fA qC rfl (K.m8) rfl) ?_)))
 refine sn (K.oA rfl ?_)
 refine K.weak (Kq.s1 (Kq.sc (Kq.sc (Kq.sc (Kq.sc (Kq.sc (Kq.sc (Kq.sc (Kq.sc (Kq.sc (Kq.sc Kq.s0))))))))))) ?_
 refine K.permH (L' := _ :: _ :: _ :: _ :: _ :: _ :: _ :: _ :: _ :: _ :: _) (Kq.pz ((Kq.pz ((Kq.pz ((Kq.pz ((Kq.pz ((Kq.pz ((Kq.pz ((Kq.pz (Kq.p0)))))))))))))))) ?_
 refine K.gA (ql (K.fA one_162 rfl (K.m0) rfl) ?_)
 refine qm ?_
 refine qp (K.Pure.eq (K.tA rfl rfl (by omega)) (show _ = Value.int .i64 ((i + 1 : Nat) : Int) from rfl)) ?_
 refine ql (K.load_mx uC rfl ((K.m8)) (mx_len hcl2.n)) ?_
 refine qm ?_
 first | refine K.mA (K.fC rfl) rfl ?_ | refine K.mA (K.not_ rfl) rfl ?_
 refine zN ?_
 refine K.xB (K.callU (first := []) (cap := [.pointer (some ⟨p1, 0, none⟩), .pointer (some ⟨p2, 0, none⟩), .pointer (some ⟨p3, 0, none⟩), .pointer (some ⟨p4, 0, none⟩), .pointer (some ⟨p5, 0, none⟩), .pointer (some ⟨p6, 0, none⟩)]) rfl cal_97 (fun w hw => IH (!(wthB iv Bm (nts.getD i default) 0).2) (ls := (ls ++ [(i : Int)])) (n := (ls.length + 1)) (fd := fd) (bt := bt) (i := i + 1) (T := K.blk b12 94 (K.mI (wthB iv Bm (nts.getD i default) 0).1) :: K.blk b10 94 (K.mI Bm) :: T) hw (by first | rfl | (rw [List.length_append]; rfl)) (by first | rfl | exact eIs) hcl2 (by rw [List.length_append]; show ls.length + 1 ≤ i + 1; omega) (by omega))) rfl ?_
 rintro ⟨⟨xQ, xc⟩, ⟨xR, xd⟩⟩ _
 refine zN ?_
 refine sn (K.seq ?_)
 refine K.use_rowc (A := xQ) K.m3 (fun _ hc4 => ?_)
 refine K.gA (ql (K.fA gC rfl (K.m2) rfl) ?_)
 refine ql (K.fA gC rfl (K.m2) rfl) ?_
 refine qp (K.aB yB rfl) ?_
 refine qp (K.oB rfl rfl (by omega)) ?_
 refine K.mA (K.slice_hi ls.length yB rfl rfl (by omega) (by omega)) rfl ?_
 refine zN ?_
 refine qt (K.store sz_26 rfl rfl rfl rfl (K.rp2)) ?_
 refine sn (K.seq ?_)
 refine K.row_pop K.rp3 eIl ?_
 refine K.gA (ql (K.fA qC rfl (K.m6) rfl) ?_)
 refine sn (K.oA rfl ?_)
 refine K.gA (ql (K.fA one_162 rfl (K.m0) rfl) ?_)
 refine qm ?_
 refine qp (K.Pure.eq (K.tA rfl rfl (by omega)) (show _ = Value.int .i64 ((i + 1 : Nat) : Int) from rfl)) ?_
 refine ql (K.load_mx uC rfl ((K.m9)) (mx_len hcl.n)) ?_
 refine K.xB (K.callU (first := []) (cap := [.pointer (some ⟨p1, 0, none⟩), .pointer (some ⟨p2, 0, none⟩), .pointer (some ⟨p3, 0, none⟩), .pointer (some ⟨p4, 0, none⟩), .pointer (some ⟨p5, 0, none⟩), .pointer (some ⟨p6, 0, none⟩)]) rfl cal_97 (fun w hw => IH false (ls := ls) (n := ls.length) (fd := (trS false iv nts f (i + 1) (wthB iv Bm (nts.getD i default) 0).1 (!(wthB iv Bm (nts.getD i default) 0).2) (ls ++ [(i : Int)]) (fd, bt)).1) (bt := (trS false iv nts f (i + 1) (wthB iv Bm (nts.getD i default) 0).1 (!(wthB iv Bm (nts.getD i default) 0).2) (ls ++ [(i : Int)]) (fd, bt)).2) (i := i + 1) (T := K.blk b12 94 (K.mI (wthB iv Bm (nts.getD i default) 0).1) :: K.blk b10 94 (K.mI Bm) :: T) hw (by first | rfl | (rw [List.length_append]; rfl)) (by first | rfl | exact eIs) hcl (by omega) (by omega))) rfl ?_
 rintro ⟨⟨yQ, yc⟩, ⟨yR, yd⟩⟩ _
 refine zN ?_
 refine K.lA ?_
 refine K.end_normal (fun w _ => K.rB rfl w) ?_
 have htr : (trS false iv nts (f + 1) i Bm false ls (fd, bt)) = (trS false iv nts f (i + 1) Bm false ls (trS false iv nts f (i + 1) (wthB iv Bm (nts.getD i default) 0).1 (!(wthB iv Bm (nts.getD i default) 0).2) (ls ++ [(i : Int)]) (fd, bt))) := tr_f ht27
 exact K.retsU ((yQ, yc), (yR, yd)) trivial rfl (by rw [htr]; exact (Kq.sc (Kq.sc (Kq.sc (Kq.sc (Kq.sc (Kq.sc (Kq.sc (Kq.sc (Kq.s1 (Kq.s1 Kq.s0)))))))))))

theorem c97 {iv : Int} {pts : List ByteArray} {nts : List NtT} {A B : Option Addr} {c d : Nat} {p1 p2 p3 p4 p5 p6 : Nat} {w0 : World} (hN : K.Rd w0 B 5 eO nts) (g : GoodS iv pts nts) : ∀ (f : Nat) (lf bad : Bool), Go97 iv pts nts A B c d p1 p2 p3 p4 p5 p6 lf bad f w0
 | f, true, true => fun h1 h2 h3 h4 h5 h6 => c97_tt hN g h1 h2 h3 h4 h5 h6
 | f, false, true => fun h1 h2 h3 h4 h5 h6 => c97_ft hN g h1 h2 h3 h4 h5 h6
 | 0, true, false => fun h1 h2 h3 h4 h5 h6 => c97_t0 hN g h1 h2 h3 h4 h5 h6
 | 0, false, false => fun h1 h2 h3 h4 h5 h6 => c97_f0 hN g h1 h2 h3 h4 h5 h6
 | f + 1, true, false => fun h1 h2 h3 h4 h5 h6 => c97_ts hN g (fun bad => c97 hN g f true bad) h1 h2 h3 h4 h5 h6
 | f + 1, false, false => fun h1 h2 h3 h4 h5 h6 => c97_fs hN g (fun bad => c97 hN g f false bad) h1 h2 h3 h4 h5 h6


end Go.Proofs.YtnhhfkgldoeifaaGreatDoor.Sh
end
section
namespace Go.Proofs.YtnhhfkgldoeifaaGreatDoor.Sh
open Go.RowKit Go
open Go.K (setd setn ev nth over cl eI eP eT setM setF)
attribute [local irreducible] K.blk K.row

set_option maxRecDepth 100000 in
set_option maxHeartbeats 1000000 in
theorem c61_t {iv : Int} {pts : List ByteArray} {nts : List NtT} {A B : Option Addr} {c d : Nat} {w : World} (hN : K.Rd w B 5 eO nts) (g : GoodS iv pts nts) :
  Calls Tryz.prog 61 [.agg #[.int .i64 iv, .slice A pts.length c, .slice B nts.length d], .bool true].toArray w (K.RetS 3 1 K.eI (srcS true iv nts) w) := by
 refine K.enter (args := [.agg #[.int .i64 iv, .slice A pts.length c, .slice B nts.length d], .bool true]) Tryz.func61 rfl (n := 11) rfl ?_
 refine zR ?_
 refine sr ?_
 refine qn (K.box) fun b2 => ?_
 refine qn (K.box) fun b3 => ?_
 refine qn (K.alloc zr_26) fun b4 => ?_
 refine sn (sr ?_)
 refine qn (K.alloc zr_4) fun b5 => ?_
 refine qt (K.store sz_4 rfl rfl rfl rfl (K.rp0)) ?_
 refine sn (sr ?_)
 refine qn (K.alloc zr_26) fun b6 => ?_
 refine sn (sr ?_)
 refine qn (K.alloc zr_162) fun b7 => ?_
 refine sn (sr ?_)
 refine K.jC (e := 3) (size := 1) ?_
 refine K.jC (e := 3) (size := 1) ?_
 refine K.mA (K.mkFunc) rfl ?_
 refine zN ?_
 refine qt (K.store sz_162 rfl rfl rfl rfl (K.rp2)) ?_
 refine sn (K.seq ?_)
 refine K.permH (L' := [_, _, _, _, _, _, _, _]) (List.Perm.trans (List.perm_middle (l₁ := [_, _])) (List.Perm.cons _ (List.Perm.trans (List.perm_middle (l₁ := [_, _, _])) (List.Perm.cons _ (List.Perm.trans (List.perm_middle (l₁ := [_, _])) (List.Perm.cons _ (Kq.pz ((Kq.pz (Kq.p0)))))))))) ?_
 refine K.draw_take 1 [] uA ?_
 refine K.aC 0 rfl (K.fA one_162 rfl (K.m0) rfl) (fun _ h => K.dC 1 _ h) (by kernel_rfl) (by kernel_rfl) rfl ?_
 refine zN ?_
 refine K.kB 1 rfl (K.nA cal_62 (fun F w hF hw => c62 w)) (fun _ h => K.dC 1 _ h) (by kernel_rfl) rfl ?_
 refine zN ?_
 refine K.sC 2 rfl (K.callU (first := []) (cap := [.pointer (some ⟨b5, 0, none⟩), .pointer (some ⟨b6, 0, none⟩), .pointer (some ⟨b4, 0, none⟩), .pointer (some ⟨b3, 0, none⟩), .pointer (some ⟨b2, 0, none⟩), .pointer (some ⟨b7, 0, none⟩)]) rfl cal_97 (fun w hw => c97 (pts := pts) (A := A) (c := c) (p1 := b5) (p2 := b6) (p3 := b4) (p4 := b3) (p5 := b2) (p6 := b7) hN g nts.length true false (ls := []) (bt := []) (fd := false) (n := 0) (i := 0) (T := []) hw rfl rfl fre_cl (Nat.le_refl _) (by omega))) (fun _ => fun _ h => K.dC 1 _ h) (by kernel_rfl) rfl ?_
 rintro ⟨⟨Q1, c1⟩, ⟨R1, d1⟩⟩ _
 refine zN ?_
 refine dd (K.dA (sr (ql (K.fA gC rfl (K.m4) rfl) ?_)))
 refine qt (K.store sz_26 rfl rfl rfl rfl (K.rp4)) ?_
 refine sn (K.ret ?_)
 refine K.wA (fun w hw => K.res_c rfl rfl (K.tB gC rfl (K.m4) w hw)) ?_
 exact K.rets_s K.m5 rfl rfl rfl

set_option maxRecDepth 100000 in
set_option maxHeartbeats 1000000 in
theorem c61_f {iv : Int} {pts : List ByteArray} {nts : List NtT} {A B : Option Addr} {c d : Nat} {w : World} (hN : K.Rd w B 5 eO nts) (g : GoodS iv pts nts) :
  Calls Tryz.prog 61 [.agg #[.int .i64 iv, .slice A pts.length c, .slice B nts.length d], .bool false].toArray w (K.RetS 3 1 K.eI (srcS false iv nts) w) := by
 refine K.enter (args := [.agg #[.int .i64 iv, .slice A pts.length c, .slice B nts.length d], .bool false]) Tryz.func61 rfl (n := 11) rfl ?_
 refine zR ?_
 refine sr ?_
 refine qn (K.box) fun b2 => ?_
 refine qn (K.box) fun b3 => ?_
 refine qn (K.alloc zr_26) fun b4 => ?_
 refine sn (sr ?_)
 refine qn (K.alloc zr_4) fun b5 => ?_
 refine qt (K.store sz_4 rfl rfl rfl rfl (K.rp0)) ?_
 refine sn (sr ?_)
 refine qn (K.alloc zr_26) fun b6 => ?_
 refine sn (sr ?_)
 refine qn (K.alloc zr_162) fun b7 => ?_
 refine sn (sr ?_)
 refine K.jC (e := 3) (size := 1) ?_
 refine K.jC (e := 3) (size := 1) ?_
 refine K.mA (K.mkFunc) rfl ?_
 refine zN ?_
 refine qt (K.store sz_162 rfl rfl rfl rfl (K.rp2)) ?_
 refine sn (K.seq ?_)
 refine K.permH (L' := [_, _, _, _, _, _, _, _]) (List.Perm.trans (List.perm_middle (l₁ := [_, _])) (List.Perm.cons _ (List.Perm.trans (List.perm_middle (l₁ := [_, _, _])) (List.Perm.cons _ (List.Perm.trans (List.perm_middle (l₁ := [_, _])) (List.Perm.cons _ (Kq.pz ((Kq.pz (Kq.p0)))))))))) ?_
 refine K.draw_take 1 [] uA ?_
 refine K.aC 0 rfl (K.fA one_162 rfl (K.m0) rfl) (fun _ h => K.dC 1 _ h) (by kernel_rfl) (by kernel_rfl) rfl ?_
 refine zN ?_
 refine K.kB 1 rfl (K.nA cal_62 (fun F w hF hw => c62 w)) (fun _ h => K.dC 1 _ h) (by kernel_rfl) rfl ?_
 refine zN ?_
 refine K.sC 2 rfl (K.callU (first := []) (cap := [.pointer (some ⟨b5, 0, none⟩), .pointer (some ⟨b6, 0, none⟩), .pointer (some ⟨b4, 0, none⟩), .pointer (some ⟨b3, 0, none⟩), .pointer (some ⟨b2, 0, none⟩), .pointer (some ⟨b7, 0, none⟩)]) rfl cal_97 (fun w hw => c97 (pts := pts) (A := A) (c := c) (p1 := b5) (p2 := b6) (p3 := b4) (p4 := b3) (p5 := b2) (p6 := b7) hN g nts.length false false (ls := []) (bt := []) (fd := false) (n := 0) (i := 0) (T := []) hw rfl rfl fre_cl (Nat.le_refl _) (by omega))) (fun _ => fun _ h => K.dC 1 _ h) (by kernel_rfl) rfl ?_
 rintro ⟨⟨Q1, c1⟩, ⟨R1, d1⟩⟩ _
 refine zN ?_
 refine dd (K.dA (sr (ql (K.fA gC rfl (K.m4) rfl) ?_)))
 refine qt (K.store sz_26 rfl rfl rfl rfl (K.rp4)) ?_
 refine sn (K.ret ?_)
 refine K.wA (fun w hw => K.res_c rfl rfl (K.tB gC rfl (K.m4) w hw)) ?_
 exact K.rets_s K.m5 rfl rfl rfl

set_option maxRecDepth 100000 in
theorem c26y {iv : Int} {pts : List ByteArray} {nts : List NtT} {A B : Option Addr} {c d : Nat} {w : World} (hP : K.Rd w A 1 eG pts) (hN : K.Rd w B 5 eO nts) (g : GoodS iv pts nts) (hA : (allB iv nts 0 nts.length).2 = true) :
  Calls Tryz.prog 26 [.agg #[.int .i64 iv, .slice A pts.length c, .slice B nts.length d]].toArray w (K.RetSE 3 1 K.eI (([] : List Int)) 4 w) := by
 refine K.enter (args := [.agg #[.int .i64 iv, .slice A pts.length c, .slice B nts.length d]]) Tryz.func26 rfl (n := 19) rfl ?_
 refine zR ?_
 refine sr ?_
 refine qn (K.box) fun b1 => ?_
 iterate 2 refine qa ?_
 refine sn (sr (ql (K.jA ag_25 rfl (K.m0) rfl) ?_))
 refine qc (K.nA cal_23 (fun F w hF hw => c23y (hP.pass hw) (hN.pass hw) g hA)) ?_
 refine qm ?_
 iterate 2 refine qx ?_
 iterate 2 refine qa ?_
 refine sn (K.seq (K.block (sr (qm ?_))))
 refine qp (K.Pure.eq (K.neq rfl rfl) (show _ = Value.bool false from rfl)) ?_
 refine qa ?_
 refine sn (K.oA rfl ?_)
 refine sr (qm ?_)
 refine qa ?_
 refine sn (K.yA rfl ?_)
 refine sr ?_
 iterate 2 refine qa ?_
 refine sn (K.ret (K.qA (K.iA ?_)))
 refine K.wA (fun w _ => K.qB rfl w) ?_
 exact K.rets_se0 rfl rfl rfl

set_option maxRecDepth 100000 in
theorem c26n {iv : Int} {pts : List ByteArray} {nts : List NtT} {A B : Option Addr} {c d : Nat} {w : World} (hP : K.Rd w A 1 eG pts) (hN : K.Rd w B 5 eO nts) (g : GoodS iv pts nts) (hA : (allB iv nts 0 nts.length).2 = false) :
  Calls Tryz.prog 26 [.agg #[.int .i64 iv, .slice A pts.length c, .slice B nts.length d]].toArray w (K.RetSE 3 1 K.eI (srcS false iv nts) 0 w) := by
 refine K.enter (args := [.agg #[.int .i64 iv, .slice A pts.length c, .slice B nts.length d]]) Tryz.func26 rfl (n := 19) rfl ?_
 refine zR ?_
 refine sr ?_
 refine qn (K.box) fun b1 => ?_
 iterate 2 refine qa ?_
 refine sn (sr (ql (K.jA ag_25 rfl (K.m0) rfl) ?_))
 refine qc (K.nA cal_23 (fun F w hF hw => c23n (hP.pass hw) (hN.pass hw) g hA)) ?_
 refine qm ?_
 iterate 2 refine qx ?_
 iterate 2 refine qa ?_
 refine sn (K.seq (K.block (sr (qm ?_))))
 refine qp (K.Pure.eq (K.neq rfl rfl) (show _ = Value.bool false from rfl)) ?_
 refine qa ?_
 refine sn (K.oA rfl ?_)
 refine sr (qm ?_)
 refine qa ?_
 refine sn (K.oA rfl ?_)
 refine K.skip (K.kA (K.dA (sr (ql (K.jA ag_25 rfl (K.m0) rfl) ?_))))
 refine K.mA (K.build (bl117 _ _ _ _ _ _ _)) rfl ?_
 refine zN ?_
 refine K.gB (K.lB cal_61 (fun F w hF hw => c61_f (pts := pts) (A := A) (c := c) (hN.pass hw) g)) rfl ?_
 rintro ⟨Q6, q6⟩ hq6
 refine zN ?_
 iterate 2 refine qa ?_
 refine sn (K.ret ?_)
 refine K.wA (fun w _ => K.qB rfl w) ?_
 exact K.rets_se K.m0 rfl rfl rfl rfl

set_option maxRecDepth 100000 in
theorem c27 {iv : Int} {pts : List ByteArray} {nts : List NtT} {A B : Option Addr} {c d : Nat} {w : World} (hP : K.Rd w A 1 eG pts) (hN : K.Rd w B 5 eO nts) (g : GoodS iv pts nts) :
  Calls Tryz.prog 27 [.agg #[.int .i64 iv, .slice A pts.length c, .slice B nts.length d]].toArray w (K.RetSE 3 1 K.eI (srcS true iv nts) 0 w) := by
 refine K.enter (args := [.agg #[.int .i64 iv, .slice A pts.length c, .slice B nts.length d]]) Tryz.func27 rfl (n := 18) rfl ?_
 refine zR ?_
 refine sr ?_
 refine qn (K.box) fun b1 => ?_
 iterate 2 refine qa ?_
 refine sn (K.seq (sr (ql (K.jA ag_25 rfl (K.m0) rfl) ?_)))
 refine qc (K.nA cal_58 (fun F w hF hw => c58 (hP.pass hw) (hN.pass hw) g)) ?_
 refine qm ?_
 iterate 3 refine qx ?_
 iterate 3 refine qa ?_
 refine sn (sr (qm ?_))
 refine qp (K.Pure.eq (K.neq rfl rfl) (show _ = Value.bool false from rfl)) ?_
 refine sn (K.oA rfl ?_)
 refine K.skip (K.dA (sr (ql (K.jA ag_25 rfl (K.m0) rfl) ?_)))
 refine K.mA (K.build (bl117 _ _ _ _ _ _ _)) rfl ?_
 refine zN ?_
 refine K.gB (K.lB cal_61 (fun F w hF hw => c61_t (pts := pts) (A := A) (c := c) (hN.pass hw) g)) rfl ?_
 rintro ⟨Q6, q6⟩ hq6
 refine zN ?_
 iterate 2 refine qa ?_
 refine sn (K.ret ?_)
 refine K.wA (fun w _ => K.qB rfl w) ?_
 exact K.rets_se K.m0 rfl rfl rfl rfl

end Go.Proofs.YtnhhfkgldoeifaaGreatDoor.Sh
end
section
namespace Go.Proofs.YtnhhfkgldoeifaaGreatDoor.Sh
open Go.RowKit Go
open Go.K (setd setn ev nth over cl eI eP eT setM setF)
attribute [local irreducible] K.blk K.row
theorem cat_list {l m : List UInt8} : ((⟨l.toArray⟩ : ByteArray) ++ (⟨m.toArray⟩ : ByteArray)).data.toList = l ++ m := by
 rw [ByteArray.mk_append_mk]
theorem bsS2 (a b : ByteArray) : K.Bs Tryz.prog 22 2 [(0, .string a), (1, .string b)] 9 ([a, b].flatMap eG) := fun w => by kernel_rfl
theorem bsS3 (a b c : ByteArray) : K.Bs Tryz.prog 22 3 [(0, .string a), (1, .string b), (2, .string c)] 9 ([a, b, c].flatMap eG) := fun w => by kernel_rfl
theorem bsS4 (a b c d : ByteArray) : K.Bs Tryz.prog 22 4 [(0, .string a), (1, .string b), (2, .string c), (3, .string d)] 9 ([a, b, c, d].flatMap eG) := fun w => by kernel_rfl
theorem bsS5 (a b c d e : ByteArray) : K.Bs Tryz.prog 22 5 [(0, .string a), (1, .string b), (2, .string c), (3, .string d), (4, .string e)] 9 ([a, b, c, d, e].flatMap eG) := fun w => by kernel_rfl
theorem c103 {x : NtT} (hk : 1 ≤ x.kd ∧ x.kd ≤ 4) (w : World) : Calls Tryz.prog 103 [.agg #[.int .i64 x.kd, .int .i64 x.a, .int .i64 x.b, .int .i64 x.lo, .int .i64 x.hi]].toArray w (K.Gives (.iface (182 + x.kd.toNat) (.agg #[.int .i64 x.kd, .int .i64 x.a, .int .i64 x.b, .int .i64 x.lo, .int .i64 x.hi])) w) := by
 have h : x.kd = 1 ∨ x.kd = 2 ∨ x.kd = 3 ∨ x.kd = 4 := by omega
 rcases h with h | h | h | h
 ·have hg := c103_1 h w
  rw [show 182 + x.kd.toNat = 183 by omega]; exact hg
 ·have hg := c103_2 h w
  rw [show 182 + x.kd.toNat = 184 by omega]; exact hg
 ·have hg := c103_3 h w
  rw [show 182 + x.kd.toNat = 185 by omega]; exact hg
 ·have hg := c103_4 h w
  rw [show 182 + x.kd.toNat = 186 by omega]; exact hg

set_option maxRecDepth 100000 in
theorem c99 {ws : List ByteArray} {bk b : Nat} {p v : Value} {bs : List UInt8} {T : List K.Chunk} {w0 w : World} (hst : K.St w0 (K.blk bk 9 (ws.flatMap eG) :: K.bld 171 5 b p v (Lib.byteCells bs) :: T) w) (hT : ∀ c ∈ T, K.NotE 5 c) (hp : p = .pointer none ∨ p = .pointer (some ⟨b, 0, none⟩)) (hN : ws.length ≤ 1000) (hlen : bs.length + (lnL (ws.map nm)).length ≤ 1000000) :
  Calls Tryz.prog 99 [.slice (some ⟨bk, 0, none⟩) ws.length ws.length, .pointer (some ⟨b, 0, none⟩)].toArray w (K.RetU (fun _ : Value => True) (fun _ => .tuple #[]) w0 (fun z => K.blk bk 9 (ws.flatMap eG) :: K.bld 171 5 b (.pointer (some ⟨b, 0, none⟩)) z (Lib.byteCells (bs ++ (lnL (ws.map nm)))) :: T)) := by
 have hll : (Lib.join (ws.map (·.data.toList)) [32]).length + 1 = (lnL (ws.map nm)).length := by unfold lnL; rw [List.length_append]; rfl
 have hs0 : (⟨(Lib.join (ws.map (·.data.toList)) [32]).toArray⟩ : ByteArray).size = (Lib.join (ws.map (·.data.toList)) [32]).length := by simp [ByteArray.size]
 refine K.enterU (args := [.slice (some ⟨bk, 0, none⟩) ws.length ws.length, .pointer (some ⟨b, 0, none⟩)]) Tryz.func99 rfl (n := 5) rfl hst ?_
 refine zR ?_
 refine K.gA (qm ?_)
 refine qc (K.nA cal_101 (fun F w hF hw => c101 hw (hF _ (K.m0)) (by omega) (by show (Lib.join (ws.map (·.data.toList)) [32]).length ≤ _; omega))) ?_
 refine qp (K.add_s rfl rfl (by show (⟨(Lib.join (ws.map (·.data.toList)) [32]).toArray⟩ : ByteArray).size + 1 ≤ _; omega)) ?_
 refine K.permH (L' := _ :: _ :: _) (Kq.pz (Kq.p0)) ?_
 refine K.xB (K.callU_f cal_100 (fun w hw => (by have hg := c100 (s := (⟨(Lib.join (ws.map (·.data.toList)) [32]).toArray⟩ : ByteArray) ++ (⟨[10].toArray⟩ : ByteArray)) hw (K.notE_cons (K.notE_blk rfl) hT) hp (by rw [ByteArray.size_append, hs0]; show bs.length + ((Lib.join (ws.map (·.data.toList)) [32]).length + 1) ≤ _; omega); rw [cat_list] at hg; exact hg))) rfl ?_
 rintro v6 _
 refine zN ?_
 refine K.lA ?_
 refine K.end_normal (fun w _ => K.rB rfl w) ?_
 refine K.permH (L' := [_, _] ++ _) (Kq.pz (Kq.p0)) ?_
 exact K.retsU v6 trivial rfl Kq.s0

end Go.Proofs.YtnhhfkgldoeifaaGreatDoor.Sh
end
section
namespace Go.Proofs.YtnhhfkgldoeifaaGreatDoor.Sh
open Go.RowKit Go
open Go.K (setd setn ev nth over cl eI eP eT setM setF)
attribute [local irreducible] K.blk K.row
attribute [local irreducible] K.bld

set_option maxRecDepth 100000 in
set_option maxHeartbeats 4000000 in
theorem c64 {iv : Int} {pts : List ByteArray} {nts : List NtT} {A B : Option Addr} {c d : Nat} {w : World} (hP : K.Rd w A 1 eG pts) (hN : K.Rd w B 5 eO nts) (g : GoodS iv pts nts) (hT : TabT w) (hb : (txS iv pts nts).length ≤ 1000000) :
  Calls Tryz.prog 64 [.agg #[.int .i64 iv, .slice A pts.length c, .slice B nts.length d]].toArray w (K.Gives (.string (bS (txS iv pts nts))) w) := by
 have hgl := g.l
 have hgn := g.n
 have hgi := g.i
 refine K.enter (args := [.agg #[.int .i64 iv, .slice A pts.length c, .slice B nts.length d]]) Tryz.func64 rfl (n := 114) rfl ?_
 refine zR ?_
 refine sr ?_
 refine qn (K.box) fun b1 => ?_
 refine qa ?_
 refine sn (sr ?_)
 refine qn (K.alloc zr_171) fun b3 => ?_
 refine sn (sr ?_)
 refine (K.blk_bld (e := 5)) ?_
 refine K.mA (K.mkFunc) rfl ?_
 refine zN ?_
 refine qa ?_
 refine sn (sr (qm ?_))
 refine qp (K.aA fo_25_0 rfl) ?_
 refine ql (K.fA one_3 rfl (K.m1) rfl) ?_
 refine qc (K.nA cal_102 (fun F w hF hw => c102 (by omega) (hT.pass hw))) ?_
 refine qn (K.buildSlice (bsS2 _ _)) fun b16 => ?_
 refine K.xB (K.callU (first := []) (cap := [.pointer (some ⟨b3, 0, none⟩)]) rfl cal_99 (fun w hw => c99 (bs := []) (ws := [bS [115, 104, 101, 101, 116], bS (Lib.itoa iv)]) hw (K.notE_cons (K.notE_blk rfl) K.notE_nil) (.inl rfl) (Nat.le_of_ble_eq_true rfl) (by have hh := txH_b hb; rw [List.length_nil, Nat.zero_add]; exact hh))) rfl ?_
 rintro v17 _
 refine zN ?_
 refine sn (K.seq (K.seq ?_))
 refine K.weak (Kq.s1 (Kq.sc (Kq.sc (List.Sublist.slnil)))) ?_
 refine K.gA (qp (K.aA fo_25_1 rfl) ?_)
 refine ql (K.fA one_22 rfl (K.m1) rfl) ?_
 refine qp (K.aB sl_22 rfl) ?_
 refine qm ?_
 refine sn (K.block ?_)
 refine K.loopW [21] [6, 22, 23, 24, 25, 26, 27, 28, 29] (fun vi L => ∃ (k : Nat) (v : Value), vi = [.int .i64 (k : Int)] ∧ L = [K.bld 171 5 b3 (.pointer (some ⟨b3, 0, none⟩)) v (Lib.byteCells (txP iv pts k)), K.blk b1 25 [.int .i64 iv, .slice A pts.length c, .slice B nts.length d]] ∧ k ≤ pts.length) (fun vi => pts.length - (intOf (K.nth vi 0)).toNat) ?_ ?_
 ·exact ⟨0, v17, rfl, by rw [txP_0]; rfl, Nat.zero_le _⟩
 intro vi vr L hJ
 obtain ⟨k, v, rfl, rfl, hkn⟩ := hJ
 refine zY ?_
 refine sr (qp (K.lss rfl rfl) ?_)
 refine sn (K.seq ?_)
 refine K.cond rfl (fun ht22 => ?_) (fun ht22 => ?_)
 ·try replace ht22 := Kq.oT ht22
  have hk : k < pts.length := by omega
  refine K.skip (K.dA (K.seq (K.block (sr (K.vB (M := []) _ hP.sl sl_22 rfl rfl rfl (by omega) rfl ?_)))))
  intro p23 hp23
  refine zN ?_
  refine ql (K.load1 one_9 rfl (hp23.any)) ?_
  refine qa ?_
  refine sn (K.gA ?_)
  iterate 2 refine qm ?_
  refine qn (K.buildSlice (bsS2 _ _)) fun b27 => ?_
  refine K.xB (K.callU (first := []) (cap := [.pointer (some ⟨b3, 0, none⟩)]) rfl cal_99 (fun w hw => c99 (ws := [bS [112, 111, 105, 110, 116], pts.getD k default]) hw (K.notE_cons (K.notE_blk rfl) K.notE_nil) (.inr rfl) (Nat.le_of_ble_eq_true rfl) (txP_b hb hk))) rfl ?_
  rintro v28 _
  refine zN ?_
  refine K.lA (K.kA (K.dA (K.gA (qp (K.tA rfl rfl (by omega)) ?_))))
  refine qm ?_
  refine K.lA ?_
  exact K.rA (L'' := [K.bld 171 5 b3 (.pointer (some ⟨b3, 0, none⟩)) v28 (Lib.byteCells (txP iv pts (k + 1))), K.blk b1 25 [.int .i64 iv, .slice A pts.length c, .slice B nts.length d]]) [.int .i64 ((k : Int) + 1)] ⟨k + 1, v28, rfl, rfl, by omega⟩ (by simp [K.nth, intOf]; omega) (by rw [txP_s hk]; exact (Kq.s1 Kq.s0)) (by kernel_rfl)
 try replace ht22 := Kq.oF ht22
 have e0 : k = pts.length := by omega
 subst e0
 refine K.exit (K.pA (K.pA (K.zA (K.dA (K.seq (K.seq ?_))))))
 refine K.weak Kq.s0 ?_
 refine K.gA (qp (K.aA fo_25_2 rfl) ?_)
 refine ql (K.fA one_23 rfl (K.m1) rfl) ?_
 refine qp (K.aB sl_23 rfl) ?_
 refine qm ?_
 refine sn (K.block ?_)
 refine K.loopW [33] [8, 9, 10, 34, 35, 36, 37, 38, 39, 40, 41, 42, 43, 44, 45, 46, 47, 48, 49, 50, 51, 52, 53, 54, 55, 56, 57, 58, 59, 60, 61, 62, 63, 64, 65, 66, 67, 68, 69, 70, 71, 72, 73, 74, 75, 76, 77, 78, 79, 80, 81, 82, 83, 84, 85, 86, 87, 88, 89, 90, 91, 92, 93, 94, 95, 96, 97, 98, 99, 100, 101, 102, 103, 104, 105, 106, 107, 108, 109, 110, 111, 112, 113] (fun vi L => ∃ (k : Nat) (v : Value), vi = [.int .i64 (k : Int)] ∧ L = [K.bld 171 5 b3 (.pointer (some ⟨b3, 0, none⟩)) v (Lib.byteCells (txN iv pts nts k)), K.blk b1 25 [.int .i64 iv, .slice A pts.length c, .slice B nts.length d]] ∧ k ≤ nts.length) (fun vi => nts.length - (intOf (K.nth vi 0)).toNat) ?_ ?_
 ·exact ⟨0, v, rfl, by rw [txN_0], Nat.zero_le _⟩
 intro vi vr L hJ
 clear hkn
 obtain ⟨k, v, rfl, rfl, hkn⟩ := hJ
 refine zY ?_
 refine sr (qp (K.lss rfl rfl) ?_)
 refine sn (K.seq ?_)
 refine K.cond rfl (fun ht34 => ?_) (fun ht34 => ?_)
 ·try replace ht34 := Kq.oT ht34
  have hk : k < nts.length := by omega
  have hx := nt_b (g.t k hk)
  have hxa := hx.a
  have hxb := hx.b
  have hkd := hx.k
  have hlh := nt_lh hx g.i
  refine K.skip (K.dA (K.seq (K.block (sr (K.vB (M := []) _ hN.sl sl_23 rfl rfl rfl (by omega) rfl ?_)))))
  intro p35 hp35
  refine zN ?_
  refine ql (K.uB ag_58 rfl (hp35.any) rfl) ?_
  refine qn (K.alloc zr_58) fun b8 => ?_
  refine qt (K.vA sz_58 rfl rfl rfl rfl (K.rp0)) ?_
  refine sn (K.seq ?_)
  refine K.nB [] uA ?_
  refine dp 0 rfl (K.aA fo_58_3 rfl) ?_
  refine dp 1 rfl (K.aA fo_46_0 rfl) ?_
  refine dm 2 rfl (K.fA one_3 rfl (K.m0) rfl) ?_
  refine dp 4 rfl (K.aA fo_58_3 rfl) ?_
  refine dp 5 rfl (K.aA fo_46_1 rfl) ?_
  refine dm 6 rfl (K.fA one_3 rfl (K.m0) rfl) ?_
  refine K.kB 3 rfl (K.nA cal_102 (fun F w hF hw => c102 (by omega) (hT.pass hw))) (fun _ h => h) (by kernel_rfl) rfl ?_
  refine zN ?_
  refine K.kB 7 rfl (K.nA cal_102 (fun F w hF hw => c102 (by omega) (hT.pass hw))) (fun _ h => h) (by kernel_rfl) rfl ?_
  refine zN ?_
  refine dp 8 rfl (K.assign) ?_
  refine dp 9 rfl (K.assign) ?_
  refine dd (K.dA (sr (ql (K.jA ag_58 rfl (K.m0) rfl) ?_)))
  refine qc (K.nA cal_103 (fun F w hF hw => c103 hkd w)) ?_
  refine sn (K.block (sr (K.mA (K.assertK con_183 rfl zr_183) rfl ?_)))
  refine zN ?_
  refine zN ?_
  iterate 2 refine qx ?_
  refine sn ?_
  refine K.cond rfl (fun ht48 => ?_) (fun ht48 => ?_)
  ·try replace ht48 := Kq.oT ht48
   have hk1 : (nts.getD k default).kd.toNat = 1 := Nat.add_left_cancel (show 182 + (nts.getD k default).kd.toNat = 182 + 1 from ht48)
   have hnw : ntW pts (nts.getD k default) = [[115, 112, 111, 116], nm (pts.getD (nts.getD k default).a.toNat default), Lib.itoa (nts.getD k default).lo, Lib.itoa (nts.getD k default).hi] := by unfold ntW; rw [if_pos (by omega)]
   refine K.permH (L' := [_, _, _]) (Kq.pz (Kq.p0)) ?_
   refine K.gA (qm ?_)
   refine qp (K.aA fo_25_1 rfl) ?_
   refine ql (K.fA one_22 rfl (K.m2) rfl) ?_
   refine qp (K.aA fo_58_1 rfl) ?_
   refine ql (K.fA one_3 rfl (K.m1) rfl) ?_
   refine K.vB (M := []) ((nts.getD k default).a.toNat) hP.sl sl_22 rfl rfl (by omega) (by omega) rfl ?_
   intro p55 hp55
   refine zN ?_
   refine ql (K.load1 one_9 rfl (hp55.any)) ?_
   iterate 2 refine qm ?_
   refine qn (K.buildSlice (bsS4 _ _ _ _)) fun b59 => ?_
   refine K.xB (K.callU (first := []) (cap := [.pointer (some ⟨b3, 0, none⟩)]) rfl cal_99 (fun w hw => c99 (ws := [bS [115, 112, 111, 116], (pts.getD (nts.getD k default).a.toNat default), (bS (Lib.itoa (nts.getD k default).lo)), (bS (Lib.itoa (nts.getD k default).hi))]) hw (K.notE_cons (K.notE_blk rfl) (K.notE_cons (K.notE_blk rfl) K.notE_nil)) (.inr rfl) (Nat.le_of_ble_eq_true rfl) (by have hh := txN_b hb hk; rw [hnw] at hh; exact hh))) rfl ?_
   rintro v60 _
   refine zN ?_
   refine K.lA (K.kA (K.kA (K.dA (K.gA (qp (K.tA rfl rfl (by omega)) ?_)))))
   refine qm ?_
   refine K.lA ?_
   exact K.rA (L'' := [K.bld 171 5 b3 (.pointer (some ⟨b3, 0, none⟩)) v60 (Lib.byteCells (txN iv pts nts (k + 1))), K.blk b1 25 [.int .i64 iv, .slice A pts.length c, .slice B nts.length d]]) [.int .i64 ((k : Int) + 1)] ⟨k + 1, v60, rfl, rfl, by omega⟩ (by simp [K.nth, intOf]; omega) (by rw [txN_s hk, hnw]; exact (Kq.s1 (Kq.sc (Kq.s1 Kq.s0)))) (by kernel_rfl)
  try replace ht48 := Kq.oF ht48
  have hk1 : ¬ (nts.getD k default).kd.toNat = 1 := fun h => ht48 (show 182 + (nts.getD k default).kd.toNat = 182 + 1 from congrArg (182 + ·) h)
  refine sr (K.mA (K.assertK con_184 rfl zr_184) rfl ?_)
  refine zN ?_
  refine zN ?_
  iterate 2 refine qx ?_
  refine sn ?_
  refine K.cond rfl (fun ht62 => ?_) (fun ht62 => ?_)
  ·try replace ht62 := Kq.oT ht62
   have hk2 : (nts.getD k default).kd.toNat = 2 := Nat.add_left_cancel (show 182 + (nts.getD k default).kd.toNat = 182 + 2 from ht62)
   have hnw : ntW pts (nts.getD k default) = [[99, 111, 110, 116, 111, 117, 114], nm (pts.getD (nts.getD k default).a.toNat default), Lib.itoa (nts.getD k default).lo, Lib.itoa (nts.getD k default).hi] := by unfold ntW; rw [if_neg (by omega), if_pos (by omega)]
   refine K.permH (L' := [_, _, _]) (Kq.pz (Kq.p0)) ?_
   refine K.gA (qm ?_)
   refine qp (K.aA fo_25_1 rfl) ?_
   refine ql (K.fA one_22 rfl (K.m2) rfl) ?_
   refine qp (K.aA fo_58_1 rfl) ?_
   refine ql (K.fA one_3 rfl (K.m1) rfl) ?_
   refine K.vB (M := []) ((nts.getD k default).a.toNat) hP.sl sl_22 rfl rfl (by omega) (by omega) rfl ?_
   intro p69 hp69
   refine zN ?_
   refine ql (K.load1 one_9 rfl (hp69.any)) ?_
   iterate 2 refine qm ?_
   refine qn (K.buildSlice (bsS4 _ _ _ _)) fun b73 => ?_
   refine K.xB (K.callU (first := []) (cap := [.pointer (some ⟨b3, 0, none⟩)]) rfl cal_99 (fun w hw => c99 (ws := [bS [99, 111, 110, 116, 111, 117, 114], (pts.getD (nts.getD k default).a.toNat default), (bS (Lib.itoa (nts.getD k default).lo)), (bS (Lib.itoa (nts.getD k default).hi))]) hw (K.notE_cons (K.notE_blk rfl) (K.notE_cons (K.notE_blk rfl) K.notE_nil)) (.inr rfl) (Nat.le_of_ble_eq_true rfl) (by have hh := txN_b hb hk; rw [hnw] at hh; exact hh))) rfl ?_
   rintro v74 _
   refine zN ?_
   refine K.lA (K.kA (K.kA (K.dA (K.gA (qp (K.tA rfl rfl (by omega)) ?_)))))
   refine qm ?_
   refine K.lA ?_
   exact K.rA (L'' := [K.bld 171 5 b3 (.pointer (some ⟨b3, 0, none⟩)) v74 (Lib.byteCells (txN iv pts nts (k + 1))), K.blk b1 25 [.int .i64 iv, .slice A pts.length c, .slice B nts.length d]]) [.int .i64 ((k : Int) + 1)] ⟨k + 1, v74, rfl, rfl, by omega⟩ (by simp [K.nth, intOf]; omega) (by rw [txN_s hk, hnw]; exact (Kq.s1 (Kq.sc (Kq.s1 Kq.s0)))) (by kernel_rfl)
  try replace ht62 := Kq.oF ht62
  have hk2 : ¬ (nts.getD k default).kd.toNat = 2 := fun h => ht62 (show 182 + (nts.getD k default).kd.toNat = 182 + 2 from congrArg (182 + ·) h)
  refine sr (K.mA (K.assertK con_185 rfl zr_185) rfl ?_)
  refine zN ?_
  refine zN ?_
  iterate 2 refine qx ?_
  refine sn ?_
  refine K.cond rfl (fun ht76 => ?_) (fun ht76 => ?_)
  ·try replace ht76 := Kq.oT ht76
   have hk3 : (nts.getD k default).kd.toNat = 3 := Nat.add_left_cancel (show 182 + (nts.getD k default).kd.toNat = 182 + 3 from ht76)
   have hnw : ntW pts (nts.getD k default) = [[108, 97, 107, 101], nm (pts.getD (nts.getD k default).a.toNat default), nm (pts.getD (nts.getD k default).b.toNat default)] := by unfold ntW; rw [if_neg (by omega), if_neg (by omega), if_pos (by omega)]
   refine K.permH (L' := [_, _, _]) (Kq.pz (Kq.p0)) ?_
   refine K.draw_drop 1 [] uA ?_
   refine dp 0 rfl (K.move) ?_
   refine dp 1 rfl (K.aA fo_25_1 rfl) ?_
   refine K.aC 2 rfl (K.fA one_22 rfl (K.m1) rfl) (fun _ h => K.tl h) (by kernel_rfl) (by kernel_rfl) rfl ?_
   refine zN ?_
   refine dp 3 rfl (K.aA fo_58_1 rfl) ?_
   refine K.aC 4 rfl (K.fA one_3 rfl (K.m0) rfl) (fun _ h => K.tl h) (by kernel_rfl) (by kernel_rfl) rfl ?_
   refine zN ?_
   refine K.d_ix (M := []) 5 ((nts.getD k default).a.toNat) rfl hP.sl sl_22 rfl rfl (by omega) (by omega) (by kernel_rfl) rfl ?_
   intro p83 hp83
   refine zN ?_
   refine K.aC 6 rfl (K.load1 one_9 rfl (hp83.any)) (fun _ h => K.tl h) (by kernel_rfl) (by kernel_rfl) rfl ?_
   refine zN ?_
   refine dp 7 rfl (K.aA fo_25_1 rfl) ?_
   refine K.aC 8 rfl (K.fA one_22 rfl (K.m1) rfl) (fun _ h => K.tl h) (by kernel_rfl) (by kernel_rfl) rfl ?_
   refine zN ?_
   refine dp 9 rfl (K.aA fo_58_2 rfl) ?_
   refine K.aC 10 rfl (K.fA one_3 rfl (K.m0) rfl) (fun _ h => K.tl h) (by kernel_rfl) (by kernel_rfl) rfl ?_
   refine zN ?_
   refine K.d_ix (M := []) 11 ((nts.getD k default).b.toNat) rfl hP.sl sl_22 rfl rfl (by omega) (by omega) (by kernel_rfl) rfl ?_
   intro p89 hp89
   refine zN ?_
   refine K.aC 12 rfl (K.load1 one_9 rfl (hp89.any)) (fun _ h => K.tl h) (by kernel_rfl) (by kernel_rfl) rfl ?_
   refine zN ?_
   refine K.d_new 13 rfl (K.buildSlice (bsS3 _ _ _)) (fun _ h => K.tl h) (by kernel_rfl) rfl ?_
   intro b91
   refine zN ?_
   refine K.sC 14 rfl (K.callU (first := []) (cap := [.pointer (some ⟨b3, 0, none⟩)]) rfl cal_99 (fun w hw => c99 (ws := [bS [108, 97, 107, 101], (pts.getD (nts.getD k default).a.toNat default), (pts.getD (nts.getD k default).b.toNat default)]) hw (K.notE_cons (K.notE_blk rfl) (K.notE_cons (K.notE_blk rfl) K.notE_nil)) (.inr rfl) (Nat.le_of_ble_eq_true rfl) (by have hh := txN_b hb hk; rw [hnw] at hh; exact hh))) (fun _ => fun _ h => K.tl (K.tl h)) (by kernel_rfl) rfl ?_
   rintro v92 _
   refine zN ?_
   refine dd (K.kA (K.kA (K.dA (K.gA (qp (K.tA rfl rfl (by omega)) ?_)))))
   refine qm ?_
   refine K.lA ?_
   exact K.rA (L'' := [K.bld 171 5 b3 (.pointer (some ⟨b3, 0, none⟩)) v92 (Lib.byteCells (txN iv pts nts (k + 1))), K.blk b1 25 [.int .i64 iv, .slice A pts.length c, .slice B nts.length d]]) [.int .i64 ((k : Int) + 1)] ⟨k + 1, v92, rfl, rfl, by omega⟩ (by simp [K.nth, intOf]; omega) (by rw [txN_s hk, hnw]; exact (Kq.s1 (Kq.sc (Kq.s1 Kq.s0)))) (by kernel_rfl)
  try replace ht76 := Kq.oF ht76
  have hk3 : ¬ (nts.getD k default).kd.toNat = 3 := fun h => ht76 (show 182 + (nts.getD k default).kd.toNat = 182 + 3 from congrArg (182 + ·) h)
  refine sr (K.mA (K.assertK con_186 rfl zr_186) rfl ?_)
  refine zN ?_
  refine zN ?_
  iterate 2 refine qx ?_
  refine sn ?_
  refine K.cond rfl (fun ht94 => ?_) (fun ht94 => ?_)
  ·try replace ht94 := Kq.oT ht94
   have hk4 : (nts.getD k default).kd.toNat = 4 := Nat.add_left_cancel (show 182 + (nts.getD k default).kd.toNat = 182 + 4 from ht94)
   have hnw : ntW pts (nts.getD k default) = [[115, 108, 111, 112, 101], nm (pts.getD (nts.getD k default).a.toNat default), nm (pts.getD (nts.getD k default).b.toNat default), Lib.itoa (nts.getD k default).lo, Lib.itoa (nts.getD k default).hi] := by unfold ntW; rw [if_neg (by omega), if_neg (by omega), if_neg (by omega)]
   refine K.permH (L' := [_, _, _]) (Kq.pz (Kq.p0)) ?_
   refine K.draw_drop 1 [] uA ?_
   refine dp 0 rfl (K.move) ?_
   refine dp 1 rfl (K.aA fo_25_1 rfl) ?_
   refine K.aC 2 rfl (K.fA one_22 rfl (K.m1) rfl) (fun _ h => K.tl h) (by kernel_rfl) (by kernel_rfl) rfl ?_
   refine zN ?_
   refine dp 3 rfl (K.aA fo_58_1 rfl) ?_
   refine K.aC 4 rfl (K.fA one_3 rfl (K.m0) rfl) (fun _ h => K.tl h) (by kernel_rfl) (by kernel_rfl) rfl ?_
   refine zN ?_
   refine K.d_ix (M := []) 5 ((nts.getD k default).a.toNat) rfl hP.sl sl_22 rfl rfl (by omega) (by omega) (by kernel_rfl) rfl ?_
   intro p101 hp101
   refine zN ?_
   refine K.aC 6 rfl (K.load1 one_9 rfl (hp101.any)) (fun _ h => K.tl h) (by kernel_rfl) (by kernel_rfl) rfl ?_
   refine zN ?_
   refine dp 7 rfl (K.aA fo_25_1 rfl) ?_
   refine K.aC 8 rfl (K.fA one_22 rfl (K.m1) rfl) (fun _ h => K.tl h) (by kernel_rfl) (by kernel_rfl) rfl ?_
   refine zN ?_
   refine dp 9 rfl (K.aA fo_58_2 rfl) ?_
   refine K.aC 10 rfl (K.fA one_3 rfl (K.m0) rfl) (fun _ h => K.tl h) (by kernel_rfl) (by kernel_rfl) rfl ?_
   refine zN ?_
   refine K.d_ix (M := []) 11 ((nts.getD k default).b.toNat) rfl hP.sl sl_22 rfl rfl (by omega) (by omega) (by kernel_rfl) rfl ?_
   intro p107 hp107
   refine zN ?_
   refine K.aC 12 rfl (K.load1 one_9 rfl (hp107.any)) (fun _ h => K.tl h) (by kernel_rfl) (by kernel_rfl) rfl ?_
   refine zN ?_
   refine dp 13 rfl (K.move) ?_
   refine dp 14 rfl (K.move) ?_
   refine K.d_new 15 rfl (K.buildSlice (bsS5 _ _ _ _ _)) (fun _ h => K.tl h) (by kernel_rfl) rfl ?_
   intro b111
   refine zN ?_
   refine K.sC 16 rfl (K.callU (first := []) (cap := [.pointer (some ⟨b3, 0, none⟩)]) rfl cal_99 (fun w hw => c99 (ws := [bS [115, 108, 111, 112, 101], (pts.getD (nts.getD k default).a.toNat default), (pts.getD (nts.getD k default).b.toNat default), (bS (Lib.itoa (nts.getD k default).lo)), (bS (Lib.itoa (nts.getD k default).hi))]) hw (K.notE_cons (K.notE_blk rfl) (K.notE_cons (K.notE_blk rfl) K.notE_nil)) (.inr rfl) (Nat.le_of_ble_eq_true rfl) (by have hh := txN_b hb hk; rw [hnw] at hh; exact hh))) (fun _ => fun _ h => K.tl (K.tl h)) (by kernel_rfl) rfl ?_
   rintro v112 _
   refine zN ?_
   refine dd (K.kA (K.kA (K.dA (K.gA (qp (K.tA rfl rfl (by omega)) ?_)))))
   refine qm ?_
   refine K.lA ?_
   exact K.rA (L'' := [K.bld 171 5 b3 (.pointer (some ⟨b3, 0, none⟩)) v112 (Lib.byteCells (txN iv pts nts (k + 1))), K.blk b1 25 [.int .i64 iv, .slice A pts.length c, .slice B nts.length d]]) [.int .i64 ((k : Int) + 1)] ⟨k + 1, v112, rfl, rfl, by omega⟩ (by simp [K.nth, intOf]; omega) (by rw [txN_s hk, hnw]; exact (Kq.s1 (Kq.sc (Kq.s1 Kq.s0)))) (by kernel_rfl)
  try replace ht94 := Kq.oF ht94
  have hk4 : ¬ (nts.getD k default).kd.toNat = 4 := fun h => ht94 (show 182 + (nts.getD k default).kd.toNat = 182 + 4 from congrArg (182 + ·) h)
  exfalso
  omega
 try replace ht34 := Kq.oF ht34
 have e0 : k = nts.length := by omega
 subst e0
 refine K.exit (K.pA (K.pA (K.zA (K.dA (sr (K.xB (K.callU_f cal_104 (fun w hw => c104 hw (K.notE_cons (K.notE_blk rfl) K.notE_nil) (.inr rfl))) rfl ?_))))))
 rintro ⟨z1, z2⟩ _
 refine zN ?_
 refine qa ?_
 refine sn (K.ret (et ?_))
 exact K.gives rfl

end Go.Proofs.YtnhhfkgldoeifaaGreatDoor.Sh
end
section
namespace Go.Proofs.YtnhhfkgldoeifaaGreatDoor.Sh
open Go.RowKit Go
open Go.K (setd setn ev nth over cl eI eP eT setM setF)
attribute [local irreducible] K.blk K.row

set_option maxRecDepth 100000 in
theorem c29 {iv : Int} {pts : List ByteArray} {nts : List NtT} {A B : Option Addr} {c d : Nat} {w : World} (hP : K.Rd w A 1 eG pts) (hN : K.Rd w B 5 eO nts) (g : GoodS iv pts nts) (hT : TabT w) (hb : (txS iv pts nts).length ≤ 1000000) :
  Calls Tryz.prog 29 [.agg #[.int .i64 iv, .slice A pts.length c, .slice B nts.length d]].toArray w (K.Gives (.tuple #[.string (bS (txS iv pts nts)), .int .i64 0]) w) := by
 refine K.enter (args := [.agg #[.int .i64 iv, .slice A pts.length c, .slice B nts.length d]]) Tryz.func29 rfl (n := 17) rfl ?_
 refine zR ?_
 refine sr ?_
 refine qn (K.box) fun b1 => ?_
 iterate 2 refine qa ?_
 refine sn (K.seq (sr (ql (K.jA ag_25 rfl (K.m0) rfl) ?_)))
 refine qc (K.nA cal_58 (fun F w hF hw => c58 (hP.pass hw) (hN.pass hw) g)) ?_
 refine qm ?_
 iterate 3 refine qx ?_
 iterate 3 refine qa ?_
 refine sn (sr (qm ?_))
 refine qp (K.Pure.eq (K.neq rfl rfl) (show _ = Value.bool false from rfl)) ?_
 refine sn (K.oA rfl ?_)
 refine K.skip (K.dA (sr (ql (K.jA ag_25 rfl (K.m0) rfl) ?_)))
 refine qc (K.nA cal_64 (fun F w hF hw => c64 (hP.pass hw) (hN.pass hw) g (hT.pass hw) hb)) ?_
 iterate 2 refine qa ?_
 refine sn (K.ret ?_)
 refine K.wA (fun w _ => K.qB rfl w) ?_
 exact K.gives rfl

set_option maxRecDepth 100000 in
theorem c68 {s : ByteArray} {w : World} (hs : s.size < 4294967281) :
  Calls Tryz.prog 68 [.string s, .string ⟨#[32]⟩].toArray w (K.Ret (fun _ : Nat => True) (fun b => .slice (some ⟨b, 0, none⟩) (spL s).length (spL s).length) (fun b => [K.blk b 9 ((spL s).flatMap eG)]) w) := by
 refine K.enter (args := [.string s, .string ⟨#[32]⟩]) Tryz.func68 rfl (n := 6) rfl ?_
 refine zR ?_
 refine sr (qa ?_)
 refine sn (sr ?_)
 iterate 2 refine qm ?_
 refine K.gB (K.lB cal_110 (fun F w hF hw => c110 hs)) rfl ?_
 rintro b7 _
 refine zN ?_
 refine qa ?_
 refine sn (K.ret (et ?_))
 exact K.rets_v b7 trivial rfl rfl Kq.s0

set_option maxRecDepth 100000 in
theorem c109 {s : ByteArray} {n : Int} {w : World} (hl : s.size ≤ 18) (hn : Lib.atoi s.data.toList = some n) :
  Calls Tryz.prog 109 [.string s].toArray w (K.Gives (.int .i64 n) w) := by
 refine K.enter (args := [.string s]) Tryz.func109 rfl (n := 13) rfl ?_
 refine zR ?_
 refine sr (qa ?_)
 refine sn (sr (qm ?_))
 refine qc (K.nA cal_131 (fun F w hF hw => c131 hl hn)) ?_
 refine qm ?_
 iterate 2 refine qx ?_
 iterate 2 refine qa ?_
 refine sn (sr (qm ?_))
 refine qp (K.eql_nn ift_173 rfl rfl) ?_
 refine qc (K.nA cal_70 (fun F w hF hw => c70 w)) ?_
 refine sn (sr (qm ?_))
 refine qa ?_
 refine sn (K.ret (et ?_))
 exact K.gives rfl

set_option maxRecDepth 100000 in
theorem c107 {iv : Int} {pts ws : List ByteArray} {A B : Option Addr} {c d n i a b2 b3 sb bk m : Nat} {w : World} (h1 : K.PtrL w [] ⟨b3, 0, none⟩ [.slice (some ⟨bk, 0, none⟩) ws.length m]) (h2 : K.PtrL w [] ⟨b2, 0, none⟩ [.pointer (some ⟨sb, 0, none⟩)]) (hs : K.PtrL w [] ⟨sb, 0, none⟩ [.int .i64 iv, .slice A pts.length c, .slice B n d]) (hW : K.Rd w (some ⟨bk, 0, none⟩) 1 eG ws) (hP : K.Rd w A 1 eG pts) (hq : pts.length = 0 ∨ ∃ b, A = some ⟨b, 0, none⟩) (hi : i < ws.length) (hwl : ws.length ≤ 1000) (hpl : pts.length ≤ 1000) (hx : Lib.idxOfS pts (ws.getD i default) = (a : Int)) (h0 : 1 ≤ pts.length) :
  Calls Tryz.prog 107 [.int .i64 (i : Int), .pointer (some ⟨b3, 0, none⟩), .pointer (some ⟨b2, 0, none⟩)].toArray w (K.Gives (.int .i64 (a : Int)) w) := by
 have hA : ∃ b o, A = some ⟨b, o, none⟩ := by
  rcases hq with h | ⟨b, h⟩
  ·omega
  ·exact ⟨b, 0, h⟩
 refine K.enter (args := [.int .i64 (i : Int), .pointer (some ⟨b3, 0, none⟩), .pointer (some ⟨b2, 0, none⟩)]) Tryz.func107 rfl (n := 21) rfl ?_
 refine zR ?_
 refine sr (qa ?_)
 refine sn (sr (qm ?_))
 refine ql (K.load1 one_22 rfl (h1.any)) ?_
 refine qp (K.aB sl_22 rfl) ?_
 refine qp (K.Pure.eq (K.lss rfl rfl) (show _ = Value.bool true from congrArg Value.bool (decide_eq_true (by omega)))) ?_
 refine qc (K.nA cal_70 (fun F w hF hw => c70 w)) ?_
 refine sn (K.seq ?_)
 refine K.nB [] uA ?_
 refine dm 0 rfl (K.load1 one_127 rfl (h2.any)) ?_
 refine dp 1 rfl (K.nilCheck rfl) ?_
 refine dp 2 rfl (K.aA fo_25_1 rfl) ?_
 refine dm 3 rfl (K.mB one_22 rfl (hs.any) rfl) ?_
 refine dm 4 rfl (K.load1 one_22 rfl (h1.any)) ?_
 refine dp 5 rfl (K.move) ?_
 refine K.d_ix (M := []) 6 _ rfl hW.sl sl_22 rfl rfl rfl (by omega) (by kernel_rfl) rfl ?_
 intro p17 hp17
 refine zN ?_
 refine dm 7 rfl (K.load1 one_9 rfl (hp17.any)) ?_
 refine K.kB 8 rfl (K.nA cal_108 (fun F w hF hw => (by have hg := c108 (c := c) (x := ws.getD i default) (hP.pass hw) h0 (by omega) hA; rw [hx] at hg; exact hg))) (fun _ h => h) (by kernel_rfl) rfl ?_
 refine zN ?_
 refine dp 9 rfl (K.assign) ?_
 refine dd (K.dA (sr (qm ?_)))
 refine qp (K.Pure.eq (K.geq rfl rfl) (show _ = Value.bool true from congrArg Value.bool (decide_eq_true (by omega)))) ?_
 refine qc (K.nA cal_70 (fun F w hF hw => c70 w)) ?_
 refine sn (sr (qm ?_))
 refine qa ?_
 refine sn (K.ret (et ?_))
 exact K.gives rfl

end Go.Proofs.YtnhhfkgldoeifaaGreatDoor.Sh
end
section
namespace Go.Proofs.YtnhhfkgldoeifaaGreatDoor.Sh
open Go Go.RowKit
theorem d65 (p q : Addr) (w : World) : CallsDIn (R.fen none) 0 Tryz.prog 65 #[.pointer (some p), .pointer (some q)] .returning w fun e u' w' => e = .returned (.tuple #[]) ∧ u' = .returning ∧ w' = w := by
 have ift : Tryz.prog.underlying 20 = some (.interface (Tryz.prog.methodsAt 20)) := by kernel_rfl
 refine callsDIn_of_wpSIn Tryz.func65 rfl trivial fun c₀ cs hu => ?_
 apply wpSIn_seq
 apply wpSIn_region
 simp [wpOpsSIn, go_sem, recoverD, hu, Tryz.ntmps65, Exit.thenS]
 apply wpSIn_seq
 apply wpSIn_region
 simp [wpOpsSIn, go_sem, Exit.thenS, run_neq_nil_nil _ _ ift]
 refine wpSIn_cond (t := false) (by simp [Act.eval, Array.replicate]) ?_
 simp only [Bool.false_eq_true, if_false]
 refine wpSIn_of_wpIn rfl (wpIn_skip ?_)
 cases c₀
 simp_all [bodyPostS, results, Tryz.results65]
theorem inv65 (p q : Addr) (w : World) : (invoke (.fn (.func 65) #[.pointer (some p), .pointer (some q)]) #[]).run Tryz.prog w = .ok (.enter 65 #[.pointer (some p), .pointer (some q)]) w := K.run_call (f := 65) (by kernel_rfl) _ w
end Go.Proofs.YtnhhfkgldoeifaaGreatDoor.Sh
end
section
namespace Go.Proofs.YtnhhfkgldoeifaaGreatDoor.Sh
open Go.RowKit Go
open Go.K (setd setn ev nth over cl eI eP eT setM setF)
attribute [local irreducible] K.blk K.row

set_option maxRecDepth 100000 in
theorem c66 {s : ByteArray} (w : World) :
  Calls Tryz.prog 66 [.string s].toArray w (K.Ret (fun _ : Nat => True) (fun q => .func (.func 105) #[] #[.pointer (some ⟨q, 0, none⟩)]) (fun q => [K.blk q 9 [.string s]]) w) := by
 refine K.enter (args := [.string s]) Tryz.func66 rfl (n := 3) rfl ?_
 refine zR ?_
 refine sr ?_
 refine qn (K.box) fun b1 => ?_
 refine qa ?_
 refine sn (sr (K.mA (K.mkFunc) rfl ?_))
 refine zN ?_
 refine qa ?_
 refine sn (K.ret (et ?_))
 exact K.rets_v b1 trivial rfl rfl Kq.s0

set_option maxRecDepth 100000 in
set_option maxHeartbeats 1000000 in
theorem c105 {XS : List (List UInt8)} {b : Nat} (hX : LnOk XS) :
  R.IterX Tryz.prog 105 [] [.pointer (some ⟨b, 0, none⟩)] b (fun f w => w.heap[b]? = some (.cells #[Value.string (bS (rst XS 0))] 9 (0, 0))) (fun s : List UInt8 => [Value.string (bS s)]) XS := by
 intro lr B0 J Jx f w hB hbl hJa hJxa hJb hJxb hf hnf hR hJ0 hpre
 refine R.enter (args := [.func (.yield lr) #[] #[], .pointer (some ⟨b, 0, none⟩)]) Tryz.func105 rfl (m := 23) rfl ?_
 refine zR ?_
 refine R.block ?_
 refine R.loopN [] [3, 4, 5, 6, 7, 8, 9, 10, 11, 12, 13, 14, 15, 16, 17, 18, 19, 20, 21, 22, 23, 24] (fun m vi W => ∃ (k : Nat) (f1 : Nat → Prop), vi = [] ∧ m = XS.length - k ∧ k ≤ XS.length ∧ J k f1 W ∧ (∀ i, f1 i → i < W.heap.size) ∧ ¬ f1 b ∧ W.heap[b]? = some (.cells #[Value.string (bS (rst XS k))] 9 (0, 0))) (XS.length) ?_ ?_
 ·intro w1 hw1
  exact ⟨0, f, rfl, rfl, Nat.zero_le _, hJa.below hJ0 hf hB hw1.1, fun i hi => Nat.lt_of_lt_of_le (hf i hi) hw1.1.size, hnf, (hw1.1.block b (K.lt_of_some hpre)).trans hpre⟩
 intro m vi vr W hJ
 obtain ⟨k, f1, rfl, rfl, hkd1, hJ1, hfb, hnb, hbx⟩ := hJ
 have h1 := R.heap_ptr hbx
 refine zY ?_
 refine R.seq ?_
 refine R.seq ?_
 refine R.gA rfl ?_
 refine ql (K.load1 one_9 rfl (h1.any)) ?_
 refine qp (K.len_s sT_9 rfl) ?_
 refine qp (K.gtr rfl rfl) ?_
 refine K.lA ?_
 refine R.out ?_
 refine R.dA ?_
 refine R.cond rfl (fun ht7 => ?_) (fun ht7 => ?_)
 ·try replace ht7 := Kq.oT ht7
  have hk : k < XS.length := by
   rcases Nat.lt_or_ge k XS.length with h | h
   ·exact h
   ·rw [bS_size, rst_end h] at ht7; simp at ht7
  have hrs := rst_s hk
  have hx2 := (hX k hk).2
  have hix : Lib.indexByte (rst XS k) 10 = ((XS.getD k default).length : Int) - 1 := by have := (hX k hk).1; omega
  have hxk : XS[k]? = some (XS.getD k default) := by rw [List.getD_eq_getElem?_getD, List.getElem?_eq_getElem hk]; rfl
  have hB1 := hJb _ _ _ hJ1
  refine R.skip ?_
  refine R.dA ?_
  refine R.block ?_
  refine R.seq ?_
  refine R.gA rfl ?_
  refine qa ?_
  refine K.lA ?_
  refine R.out ?_
  refine R.dA ?_
  refine R.seq ?_
  refine R.seq ?_
  refine R.gA rfl ?_
  refine ql (K.load1 one_9 rfl (h1.any)) ?_
  refine qc (K.nA cal_106 (fun F w hF hw => (by have hg := c106 (s := bS (rst XS k)) (c := 10) (w := w); rw [show Lib.indexByte (bS (rst XS k)).data.toList (10 : Int).toNat.toUInt8 = ((XS.getD k default).length : Int) - 1 from hix] at hg; exact hg))) ?_
  refine qa ?_
  refine K.lA ?_
  refine R.out ?_
  refine R.dA ?_
  refine R.seq ?_
  refine R.gA rfl ?_
  refine qm ?_
  refine qp (K.Pure.eq (K.geq rfl rfl) (show _ = Value.bool true from congrArg Value.bool (decide_eq_true (by omega)))) ?_
  refine K.lA ?_
  refine R.out ?_
  refine R.dA ?_
  refine R.yA rfl ?_
  refine R.nB [9] uA rfl ?_
  refine dm 0 rfl (K.load1 one_9 rfl (h1.any)) ?_
  refine dp 1 rfl (K.move) ?_
  refine dp 2 rfl (K.tA rfl rfl (by omega)) ?_
  refine dp 3 rfl (K.Pure.eq (K.slice_s_hi (XS.getD k default).length sT_9 rfl rfl (by omega) (by rw [bS_size, hrs, List.length_append]; omega)) (show _ = Value.string (bS (XS.getD k default)) from congrArg Value.string (by rw [hrs, cut_hi]))) ?_
  refine dm 4 rfl (K.load1 one_9 rfl (h1.any)) ?_
  refine dp 5 rfl (K.move) ?_
  refine dp 6 rfl (K.tA rfl rfl (by omega)) ?_
  refine dp 7 rfl (K.Pure.eq (K.slice_s_lo (XS.getD k default).length sT_9 rfl rfl (by omega) (by rw [bS_size, hrs, List.length_append]; omega)) (show _ = Value.string (bS (rst XS (k + 1))) from congrArg Value.string (by rw [hrs, cut_lo]))) ?_
  refine dp 8 rfl (K.assign) ?_
  refine R.d_old (ix := 9) (cs := [.string (bS (rst XS k))]) rfl sz_9 rfl rfl (Nat.le_refl 1) rfl rfl (by kernel_rfl) (by kernel_rfl) rfl rfl (fun w hw => (hw.1.block b (K.lt_of_some hbx)).trans hbx) (fun w5 w6 hw5 hb6 hne hbe => ?_)
  have hsz6 : w5.heap.size ≤ w6.heap.size := (hbe 0).size
  refine zN ?_
  refine dd ?_
  refine R.out ?_
  refine R.dA ?_
  refine R.seq ?_
  refine R.lregion ?_
  refine R.jB (K.move) rfl rfl ?_
  refine zn ?_
  refine R.jB (K.move) rfl rfl ?_
  refine zn ?_
  refine R.lseq_yield2 rfl rfl rfl (fun w7 hw7 => R.yield_steps hR hxk (hJa _ _ W w7 hJ1 ((R.BelowX.of (hw5.1.mono hB1)).trans ((hbe B0).trans (R.BelowX.of (hw7.1.mono (Nat.le_trans hB1 (Nat.le_trans hw5.1.size hsz6)))))) (fun j hj => by have hj2 := hfb j hj; rw [hw7.1.block j (Nat.lt_of_lt_of_le hj2 (Nat.le_trans hw5.1.size hsz6)), hne j (fun e => hnb (e ▸ hj)), hw5.1.block j hj2]))) ?_
  intro w7 hw7 bb w8 hst
  refine zN ?_
  first | refine R.jB (K.fC rfl) rfl rfl ?_ | refine R.jB (K.not_ rfl) rfl rfl ?_
  refine zN ?_
  refine R.lseq_nil ?_
  refine R.dA ?_
  refine R.cond rfl (fun ht24 => ?_) (fun ht24 => ?_)
  ·try replace ht24 := Kq.oT ht24
   refine R.ret ?_
   refine R.qA ?_
   refine R.iA ?_
   refine R.qA ?_
   refine R.wA (fun w _ => K.rB rfl w) ?_
   intro w3 hw3
   refine ⟨⟨_, rfl⟩, .inr ?_⟩
   have hbf : bb = false := by simpa using ht24
   subst hbf
   rcases hst with ⟨h, _⟩ | ⟨_, k2, f2, hk2, hJ2, hkp, _, hf2⟩
   ·cases h
   exact ⟨k2, f2, hk2, hJxa.below hJ2 hf2 (hJxb _ _ _ hJ2) hw3.1⟩
  try replace ht24 := Kq.oF ht24
  have hbt : bb = true := by simpa using ht24
  subst hbt
  rcases hst with ⟨_, f2, hJ2, hk2, _, hf2⟩ | ⟨h, _⟩
  case inr => cases h
  have ek := ((R.Keep.below (f := f1) hw7.1).trans hk2)
  have hB2 := hJb _ _ _ hJ2
  have hbx2 := (ek b (K.lt_of_some hb6) hnb).2.trans hb6
  refine R.skip ?_
  refine R.kA ?_
  refine R.roundN (XS.length - (k + 1)) [] (fun w4 hw4 => ?_) (by omega) (by kernel_rfl)
  exact ⟨k + 1, f2, rfl, rfl, by omega, hJa.below hJ2 hf2 hB2 hw4.1, fun i hi => Nat.lt_of_lt_of_le (hf2 i hi) hw4.1.size, (ek b (K.lt_of_some hb6) hnb).1, (hw4.1.block b (K.lt_of_some hbx2)).trans hbx2⟩
 try replace ht7 := Kq.oF ht7
 refine R.exit ?_
 refine R.pA (R.pA (R.zA ?_))
 refine R.end_normal (fun w _ => K.rB rfl w) ?_
 intro w3 hw3
 refine ⟨⟨_, rfl⟩, .inl ⟨f1, ?_⟩⟩
 have e0 : k = XS.length := by
  rcases Nat.lt_or_ge k XS.length with h | h
  ·have h2 := congrArg List.length (rst_s h)
   have h3 := (hX k h).2.1
   rw [List.length_append] at h2
   rw [bS_size] at ht7
   omega
  ·omega
 rw [← e0]
 exact hJa.below hJ1 hfb (hJb _ _ _ hJ1) hw3.1

end Go.Proofs.YtnhhfkgldoeifaaGreatDoor.Sh
end
section
namespace Go.Proofs.YtnhhfkgldoeifaaGreatDoor.Sh
open Go.RowKit Go
open Go.K (setd setn ev nth over cl eI eP eT setM setF)
attribute [local irreducible] K.blk K.row
theorem eO_snoc {xs : List NtT} {k a b l h : Int} : xs.flatMap eO ++ [.int .i64 k, .int .i64 a, .int .i64 b, .int .i64 l, .int .i64 h] = (xs ++ [(⟨k, a, b, l, h⟩ : NtT)]).flatMap eO := by rw [List.flatMap_append]; rfl
theorem eG_snoc {xs : List ByteArray} {x : ByteArray} : xs.flatMap eG ++ [.string x] = (xs ++ [x]).flatMap eG := by rw [List.flatMap_append]; rfl
theorem bsG (x : ByteArray) : K.Bs Tryz.prog 22 1 [(0, .string x)] 9 [.string x] := fun w => by kernel_rfl
theorem bl46y (l h : Int) : K.Bl Tryz.prog 46 [(0, .int .i64 l), (1, .int .i64 h)] (.agg #[.int .i64 l, .int .i64 h]) := fun w => by kernel_rfl
theorem bl58l (a b : Int) : K.Bl Tryz.prog 58 [(0, .int .i64 3), (1, .int .i64 a), (2, .int .i64 b)] (.agg #[.int .i64 3, .int .i64 a, .int .i64 b, .int .i64 0, .int .i64 0]) := fun w => by kernel_rfl
theorem bl58s (a l h : Int) : K.Bl Tryz.prog 58 [(0, .int .i64 1), (1, .int .i64 a), (3, .agg #[.int .i64 l, .int .i64 h])] (.agg #[.int .i64 1, .int .i64 a, .int .i64 0, .int .i64 l, .int .i64 h]) := fun w => by kernel_rfl
theorem bl58t (a b l h : Int) : K.Bl Tryz.prog 58 [(0, .int .i64 4), (1, .int .i64 a), (2, .int .i64 b), (3, .agg #[.int .i64 l, .int .i64 h])] (.agg #[.int .i64 4, .int .i64 a, .int .i64 b, .int .i64 l, .int .i64 h]) := fun w => by kernel_rfl

set_option maxRecDepth 100000 in
set_option maxHeartbeats 2000000 in
theorem c67_sheet {iv : Int} {pts : List ByteArray} {nts : List NtT} {A B : Option Addr} {c d sb bk : Nat} {T : List K.Chunk} {w0 w : World} {x : ByteArray} (hst : K.St w0 (K.blk sb 25 [.int .i64 iv, .slice A pts.length c, .slice B nts.length d] :: K.row (.slice A pts.length c) 9 1 pts.length (pts.flatMap eG) :: K.row (.slice B nts.length d) 58 5 nts.length (nts.flatMap eO) :: K.blk bk 9 (([bS [115, 104, 101, 101, 116], x]).flatMap eG) :: T) w) {n : Int} (hx : (x.size ≤ 18 ∧ Lib.atoi x.data.toList = some n)) :
  Calls Tryz.prog 67 [.pointer (some ⟨sb, 0, none⟩), .slice (some ⟨bk, 0, none⟩) 2 2].toArray w (K.RetU (fun _ : (Option Addr × Nat) × (Option Addr × Nat) => True) (fun _ => .tuple #[]) w0 (fun z => K.blk sb 25 [.int .i64 n, .slice z.1.1 pts.length z.1.2, .slice z.2.1 nts.length z.2.2] :: K.row (.slice z.1.1 pts.length z.1.2) 9 1 pts.length (pts.flatMap eG) :: K.row (.slice z.2.1 nts.length z.2.2) 58 5 nts.length (nts.flatMap eO) :: K.blk bk 9 (([bS [115, 104, 101, 101, 116], x]).flatMap eG) :: T)) := by
 refine K.enterU (args := [.pointer (some ⟨sb, 0, none⟩), .slice (some ⟨bk, 0, none⟩) 2 2]) Tryz.func67 rfl (n := 129) rfl hst ?_
 refine zR ?_
 refine sr ?_
 refine qn (K.box) fun b2 => ?_
 refine qn (K.box) fun b3 => ?_
 refine sn (sr (K.mA (K.mkFunc) rfl ?_))
 refine zN ?_
 refine qa ?_
 refine sn (sr (ql (K.fA one_22 rfl (K.m0) rfl) ?_))
 refine K.vB (M := [K.blk bk 9 (([bS [115, 104, 101, 101, 116], x]).flatMap eG)]) _ (K.Sl.of_blk (w0 := w0) (t := 9) (e := eG) (xs := [bS [115, 104, 101, 101, 116], x]) (fun _ => rfl) rfl) sl_22 rfl rfl rfl (by first | omega | exact Nat.le_of_ble_eq_true rfl) rfl ?_
 intro p11 hp11
 refine zN ?_
 refine ql (K.load1 one_9 rfl (hp11.at1 (K.m5))) ?_
 refine sn (K.block (sr (qp (K.Pure.eq (K.rC rfl rfl) (show _ = Value.bool true from congrArg Value.bool (by kernel_rfl))) ?_)))
 refine qa ?_
 refine sn (K.yA rfl ?_)
 refine sr (ql (K.fA one_22 rfl (K.m0) rfl) ?_)
 refine qp (K.aB sl_22 rfl) ?_
 refine qp (K.eql rfl rfl) ?_
 refine qc (K.nA cal_70 (fun F w hF hw => c70 w)) ?_
 refine sn ?_
 refine K.nB [7] uA ?_
 refine dm 0 rfl (K.fA one_127 rfl (K.m1) rfl) ?_
 refine dm 1 rfl (K.fA one_22 rfl (K.m0) rfl) ?_
 refine K.d_ix (M := [K.blk bk 9 (([bS [115, 104, 101, 101, 116], x]).flatMap eG)]) 2 _ rfl (K.Sl.of_blk (w0 := w0) (t := 9) (e := eG) (xs := [bS [115, 104, 101, 101, 116], x]) (fun _ => rfl) rfl) sl_22 rfl rfl rfl (by first | omega | exact Nat.le_of_ble_eq_true rfl) (by kernel_rfl) rfl ?_
 intro p22 hp22
 refine zN ?_
 refine dm 3 rfl (K.load1 one_9 rfl (hp22.at1 (K.m5))) ?_
 refine K.kB 4 rfl (K.nA cal_109 (fun F w hF hw => c109 hx.1 hx.2)) (fun _ h => h) (by kernel_rfl) rfl ?_
 refine zN ?_
 refine dp 5 rfl (K.nilCheck rfl) ?_
 refine dp 6 rfl (K.aA fo_25_0 rfl) ?_
 refine K.eC 7 rfl (K.store sz_3 rfl rfl rfl rfl (K.rp2)) rfl (by kernel_rfl) rfl ?_
 intro _ _
 refine zN ?_
 refine dd (K.kA ?_)
 refine K.end_normal (fun w _ => K.rB rfl w) ?_
 exact K.retsU ((A, c), (B, d)) trivial rfl (Kq.s1 (Kq.s1 Kq.s0))

set_option maxRecDepth 100000 in
set_option maxHeartbeats 2000000 in
theorem c67_point {iv : Int} {pts : List ByteArray} {nts : List NtT} {A B : Option Addr} {c d sb bk : Nat} {T : List K.Chunk} {w0 w : World} {x : ByteArray} (hst : K.St w0 (K.blk sb 25 [.int .i64 iv, .slice A pts.length c, .slice B nts.length d] :: K.row (.slice A pts.length c) 9 1 pts.length (pts.flatMap eG) :: K.row (.slice B nts.length d) 58 5 nts.length (nts.flatMap eO) :: K.blk bk 9 (([bS [112, 111, 105, 110, 116], x]).flatMap eG) :: T) w) (hn : pts.length ≤ 1000) :
  Calls Tryz.prog 67 [.pointer (some ⟨sb, 0, none⟩), .slice (some ⟨bk, 0, none⟩) 2 2].toArray w (K.RetU (fun _ : (Option Addr × Nat) × (Option Addr × Nat) => True) (fun _ => .tuple #[]) w0 (fun z => K.blk sb 25 [.int .i64 iv, .slice z.1.1 (pts ++ [x]).length z.1.2, .slice z.2.1 nts.length z.2.2] :: K.row (.slice z.1.1 (pts ++ [x]).length z.1.2) 9 1 (pts ++ [x]).length ((pts ++ [x]).flatMap eG) :: K.row (.slice z.2.1 nts.length z.2.2) 58 5 nts.length (nts.flatMap eO) :: K.blk bk 9 (([bS [112, 111, 105, 110, 116], x]).flatMap eG) :: T)) := by
 refine K.enterU (args := [.pointer (some ⟨sb, 0, none⟩), .slice (some ⟨bk, 0, none⟩) 2 2]) Tryz.func67 rfl (n := 129) rfl hst ?_
 refine zR ?_
 refine sr ?_
 refine qn (K.box) fun b2 => ?_
 refine qn (K.box) fun b3 => ?_
 refine sn (sr (K.mA (K.mkFunc) rfl ?_))
 refine zN ?_
 refine qa ?_
 refine sn (sr (ql (K.fA one_22 rfl (K.m0) rfl) ?_))
 refine K.vB (M := [K.blk bk 9 (([bS [112, 111, 105, 110, 116], x]).flatMap eG)]) _ (K.Sl.of_blk (w0 := w0) (t := 9) (e := eG) (xs := [bS [112, 111, 105, 110, 116], x]) (fun _ => rfl) rfl) sl_22 rfl rfl rfl (by first | omega | exact Nat.le_of_ble_eq_true rfl) rfl ?_
 intro p11 hp11
 refine zN ?_
 refine ql (K.load1 one_9 rfl (hp11.at1 (K.m5))) ?_
 refine sn (K.block (sr (qp (K.Pure.eq (K.rC rfl rfl) (show _ = Value.bool false from congrArg Value.bool (by kernel_rfl))) ?_)))
 refine qa ?_
 refine sn (K.oA rfl ?_)
 refine sr (qp (K.Pure.eq (K.rC rfl rfl) (show _ = Value.bool true from congrArg Value.bool (by kernel_rfl))) ?_)
 refine qa ?_
 refine sn (K.yA rfl ?_)
 refine sr (ql (K.fA one_22 rfl (K.m0) rfl) ?_)
 refine qp (K.aB sl_22 rfl) ?_
 refine qp (K.eql rfl rfl) ?_
 refine qc (K.nA cal_70 (fun F w hF hw => c70 w)) ?_
 refine sn ?_
 refine K.permH (L' := _ :: _ :: _ :: _ :: _ :: _ :: _) (List.Perm.trans (List.perm_middle (l₁ := [_, _, _])) (List.Perm.cons _ Kq.p0)) ?_
 refine K.draw_drop 1 [12] uA ?_
 refine K.aC 0 rfl (K.fA one_127 rfl (K.m1) rfl) (fun _ h => K.tl h) (by kernel_rfl) (by kernel_rfl) rfl ?_
 refine zN ?_
 refine K.aC 1 rfl (K.fA one_127 rfl (K.m1) rfl) (fun _ h => K.tl h) (by kernel_rfl) (by kernel_rfl) rfl ?_
 refine zN ?_
 refine dp 2 rfl (K.nilCheck rfl) ?_
 refine dp 3 rfl (K.aA fo_25_1 rfl) ?_
 refine K.aC 4 rfl (K.fA one_22 rfl (K.m2) rfl) (fun _ h => K.tl h) (by kernel_rfl) (by kernel_rfl) rfl ?_
 refine zN ?_
 refine K.aC 5 rfl (K.fA one_22 rfl (K.m0) rfl) (fun _ h => K.tl h) (by kernel_rfl) (by kernel_rfl) rfl ?_
 refine zN ?_
 refine K.d_ix (M := [K.blk bk 9 (([bS [112, 111, 105, 110, 116], x]).flatMap eG)]) 6 _ rfl (K.Sl.of_blk (w0 := w0) (t := 9) (e := eG) (xs := [bS [112, 111, 105, 110, 116], x]) (fun _ => rfl) rfl) sl_22 rfl rfl rfl (by first | omega | exact Nat.le_of_ble_eq_true rfl) (by kernel_rfl) rfl ?_
 intro p39 hp39
 refine zN ?_
 refine K.aC 7 rfl (K.load1 one_9 rfl (hp39.at1 (K.m4))) (fun _ h => K.tl h) (by kernel_rfl) (by kernel_rfl) rfl ?_
 refine zN ?_
 refine K.d_new 8 rfl (K.buildSlice (bsG _)) (fun _ h => K.tl h) (by kernel_rfl) rfl ?_
 intro b41
 refine zN ?_
 refine K.sC 9 rfl (K.append el_22 rfl rfl (K.PtrL.own' (K.m0)) rfl rfl (by decide) (by omega) (by omega) (fun _ _ => K.rp1)) (fun _ => fun _ h => K.tl (K.tl h)) (by kernel_rfl) rfl ?_
 rintro ⟨g42, c42⟩ _
 refine zN ?_
 refine dp 10 rfl (K.nilCheck rfl) ?_
 refine dp 11 rfl (K.aA fo_25_1 rfl) ?_
 refine K.eC 12 rfl (K.store sz_22 rfl rfl rfl rfl (K.rp4)) rfl (by kernel_rfl) rfl ?_
 intro _ _
 refine zN ?_
 refine dd (K.kA ?_)
 refine K.end_normal (fun w _ => K.rB rfl w) ?_
 have e1 : (pts ++ [x]).length = pts.length + 1 := by rw [List.length_append]; rfl
 refine K.weak (L' := _ :: _ :: _ :: _ :: _) ((Kq.s1 (Kq.sc (Kq.s1 (Kq.s1 Kq.s0))))) ?_
 refine K.permH (L' := _ :: _ :: _ :: _ :: _) (Kq.pz (Kq.p0)) ?_
 exact K.retsU ((some ⟨g42, 0, none⟩, c42), (B, d)) trivial rfl (by rw [e1, ← eG_snoc]; exact List.Sublist.refl _)

set_option maxRecDepth 100000 in
set_option maxHeartbeats 2000000 in
theorem c67_lake {iv : Int} {pts : List ByteArray} {nts : List NtT} {A B : Option Addr} {c d sb bk : Nat} {T : List K.Chunk} {w0 w : World} {x y : ByteArray} (hst : K.St w0 (K.blk sb 25 [.int .i64 iv, .slice A pts.length c, .slice B nts.length d] :: K.row (.slice A pts.length c) 9 1 pts.length (pts.flatMap eG) :: K.row (.slice B nts.length d) 58 5 nts.length (nts.flatMap eO) :: K.blk bk 9 (([bS [108, 97, 107, 101], x, y]).flatMap eG) :: T) w) {a b : Nat} (hn : nts.length ≤ 1000) (hpl : pts.length ≤ 1000) (h0 : 1 ≤ pts.length) (ha : Lib.idxOfS pts x = (a : Int)) (hb : Lib.idxOfS pts y = (b : Int)) :
  Calls Tryz.prog 67 [.pointer (some ⟨sb, 0, none⟩), .slice (some ⟨bk, 0, none⟩) 3 3].toArray w (K.RetU (fun _ : (Option Addr × Nat) × (Option Addr × Nat) => True) (fun _ => .tuple #[]) w0 (fun z => K.blk sb 25 [.int .i64 iv, .slice z.1.1 pts.length z.1.2, .slice z.2.1 (nts ++ [(⟨3, (a : Int), (b : Int), 0, 0⟩ : NtT)]).length z.2.2] :: K.row (.slice z.1.1 pts.length z.1.2) 9 1 pts.length (pts.flatMap eG) :: K.row (.slice z.2.1 (nts ++ [(⟨3, (a : Int), (b : Int), 0, 0⟩ : NtT)]).length z.2.2) 58 5 (nts ++ [(⟨3, (a : Int), (b : Int), 0, 0⟩ : NtT)]).length ((nts ++ [(⟨3, (a : Int), (b : Int), 0, 0⟩ : NtT)]).flatMap eO) :: K.blk bk 9 (([bS [108, 97, 107, 101], x, y]).flatMap eG) :: T)) := by
 refine K.enterU (args := [.pointer (some ⟨sb, 0, none⟩), .slice (some ⟨bk, 0, none⟩) 3 3]) Tryz.func67 rfl (n := 129) rfl hst ?_
 refine zR ?_
 refine sr ?_
 refine qn (K.box) fun b2 => ?_
 refine qn (K.box) fun b3 => ?_
 refine sn (sr (K.mA (K.mkFunc) rfl ?_))
 refine zN ?_
 refine qa ?_
 refine sn (sr (ql (K.fA one_22 rfl (K.m0) rfl) ?_))
 refine K.vB (M := [K.blk bk 9 (([bS [108, 97, 107, 101], x, y]).flatMap eG)]) _ (K.Sl.of_blk (w0 := w0) (t := 9) (e := eG) (xs := [bS [108, 97, 107, 101], x, y]) (fun _ => rfl) rfl) sl_22 rfl rfl rfl (by first | omega | exact Nat.le_of_ble_eq_true rfl) rfl ?_
 intro p11 hp11
 refine zN ?_
 refine ql (K.load1 one_9 rfl (hp11.at1 (K.m5))) ?_
 refine sn (K.block (sr (qp (K.Pure.eq (K.rC rfl rfl) (show _ = Value.bool false from congrArg Value.bool (by kernel_rfl))) ?_)))
 refine qa ?_
 refine sn (K.oA rfl ?_)
 refine sr (qp (K.Pure.eq (K.rC rfl rfl) (show _ = Value.bool false from congrArg Value.bool (by kernel_rfl))) ?_)
 refine qa ?_
 refine sn (K.oA rfl ?_)
 refine sr (qp (K.Pure.eq (K.rC rfl rfl) (show _ = Value.bool true from congrArg Value.bool (by kernel_rfl))) ?_)
 refine qa ?_
 refine sn (K.yA rfl ?_)
 refine sr (ql (K.fA one_22 rfl (K.m0) rfl) ?_)
 refine qp (K.aB sl_22 rfl) ?_
 refine qp (K.eql rfl rfl) ?_
 refine qc (K.nA cal_70 (fun F w hF hw => c70 w)) ?_
 refine sn (K.seq ?_)
 refine K.iC (A := A) K.m3 (fun hq => ?_)
 refine K.gA (qm ?_)
 refine qc (K.callv_g (first := []) (cap := [.pointer (some ⟨b3, 0, none⟩), .pointer (some ⟨b2, 0, none⟩)]) rfl cal_107 (fun F w hF hw => c107 (ws := [bS [108, 97, 107, 101], x, y]) (i := 1) (a := a) (K.PtrL.pass hw (hF _ (K.m0)) (Below.refl _ _)) (K.PtrL.pass hw (hF _ (K.m1)) (Below.refl _ _)) (K.PtrL.pass hw (hF _ (K.m2)) (Below.refl _ _)) (K.Rd.lit hw (hF _ (K.m5)) (fun _ => rfl) (by decide) rfl) (K.Rd.own hw (hF _ (K.m3)) hq (fun _ => rfl) (by decide)) hq (Nat.le_of_ble_eq_true rfl) (Nat.le_of_ble_eq_true rfl) hpl ha h0)) ?_
 refine qm ?_
 refine qc (K.callv_g (first := []) (cap := [.pointer (some ⟨b3, 0, none⟩), .pointer (some ⟨b2, 0, none⟩)]) rfl cal_107 (fun F w hF hw => c107 (ws := [bS [108, 97, 107, 101], x, y]) (i := 2) (a := b) (K.PtrL.pass hw (hF _ (K.m0)) (Below.refl _ _)) (K.PtrL.pass hw (hF _ (K.m1)) (Below.refl _ _)) (K.PtrL.pass hw (hF _ (K.m2)) (Below.refl _ _)) (K.Rd.lit hw (hF _ (K.m5)) (fun _ => rfl) (by decide) rfl) (K.Rd.own hw (hF _ (K.m3)) hq (fun _ => rfl) (by decide)) hq (Nat.le_of_ble_eq_true rfl) (Nat.le_of_ble_eq_true rfl) hpl hb h0)) ?_
 iterate 2 refine qa ?_
 refine sn ?_
 refine K.permH (L' := _ :: _ :: _ :: _ :: _ :: _ :: _) (List.Perm.trans (List.perm_middle (l₁ := [_, _, _, _])) (List.Perm.cons _ Kq.p0)) ?_
 refine K.draw_drop 1 [12] uA ?_
 refine K.aC 0 rfl (K.fA one_127 rfl (K.m1) rfl) (fun _ h => K.tl h) (by kernel_rfl) (by kernel_rfl) rfl ?_
 refine zN ?_
 refine K.aC 1 rfl (K.fA one_127 rfl (K.m1) rfl) (fun _ h => K.tl h) (by kernel_rfl) (by kernel_rfl) rfl ?_
 refine zN ?_
 refine dp 2 rfl (K.nilCheck rfl) ?_
 refine dp 3 rfl (K.aA fo_25_2 rfl) ?_
 refine K.aC 4 rfl (K.fA one_23 rfl (K.m2) rfl) (fun _ h => K.tl h) (by kernel_rfl) (by kernel_rfl) rfl ?_
 refine zN ?_
 refine dp 5 rfl (K.move) ?_
 refine dp 6 rfl (K.move) ?_
 refine dp 7 rfl (K.build (bl58l _ _)) ?_
 refine K.d_new 8 rfl (K.buildSlice (bs23 _ _ _ _ _)) (fun _ h => K.tl h) (by kernel_rfl) rfl ?_
 intro b63
 refine zN ?_
 refine K.sC 9 rfl (K.append el_23 rfl rfl (K.PtrL.own' (K.m0)) rfl rfl (by decide) (by omega) (by omega) (fun _ _ => K.rp1)) (fun _ => fun _ h => K.tl (K.tl h)) (by kernel_rfl) rfl ?_
 rintro ⟨g64, c64⟩ _
 refine zN ?_
 refine dp 10 rfl (K.nilCheck rfl) ?_
 refine dp 11 rfl (K.aA fo_25_2 rfl) ?_
 refine K.eC 12 rfl (K.store sz_23 rfl rfl rfl rfl (K.rp4)) rfl (by kernel_rfl) rfl ?_
 intro _ _
 refine zN ?_
 refine dd (K.kA ?_)
 refine K.end_normal (fun w _ => K.rB rfl w) ?_
 have e1 : (nts ++ [(⟨3, (a : Int), (b : Int), 0, 0⟩ : NtT)]).length = nts.length + 1 := by rw [List.length_append]; rfl
 refine K.weak (L' := _ :: _ :: _ :: _ :: _) ((Kq.s1 (Kq.sc (Kq.s1 (Kq.s1 Kq.s0))))) ?_
 refine K.permH (L' := _ :: _ :: _ :: _ :: _) (Kq.pz ((Kq.pz (Kq.p0)))) ?_
 exact K.retsU ((A, c), (some ⟨g64, 0, none⟩, c64)) trivial rfl (by rw [e1, ← eO_snoc]; exact List.Sublist.refl _)

set_option maxRecDepth 100000 in
set_option maxHeartbeats 2000000 in
theorem c67_spot {iv : Int} {pts : List ByteArray} {nts : List NtT} {A B : Option Addr} {c d sb bk : Nat} {T : List K.Chunk} {w0 w : World} {x u v : ByteArray} (hst : K.St w0 (K.blk sb 25 [.int .i64 iv, .slice A pts.length c, .slice B nts.length d] :: K.row (.slice A pts.length c) 9 1 pts.length (pts.flatMap eG) :: K.row (.slice B nts.length d) 58 5 nts.length (nts.flatMap eO) :: K.blk bk 9 (([bS [115, 112, 111, 116], x, u, v]).flatMap eG) :: T) w) {a : Nat} {l h : Int} (hn : nts.length ≤ 1000) (hpl : pts.length ≤ 1000) (h0 : 1 ≤ pts.length) (ha : Lib.idxOfS pts x = (a : Int)) (hu : (u.size ≤ 18 ∧ Lib.atoi u.data.toList = some l)) (hv : (v.size ≤ 18 ∧ Lib.atoi v.data.toList = some h)) :
  Calls Tryz.prog 67 [.pointer (some ⟨sb, 0, none⟩), .slice (some ⟨bk, 0, none⟩) 4 4].toArray w (K.RetU (fun _ : (Option Addr × Nat) × (Option Addr × Nat) => True) (fun _ => .tuple #[]) w0 (fun z => K.blk sb 25 [.int .i64 iv, .slice z.1.1 pts.length z.1.2, .slice z.2.1 (nts ++ [(⟨1, (a : Int), 0, l, h⟩ : NtT)]).length z.2.2] :: K.row (.slice z.1.1 pts.length z.1.2) 9 1 pts.length (pts.flatMap eG) :: K.row (.slice z.2.1 (nts ++ [(⟨1, (a : Int), 0, l, h⟩ : NtT)]).length z.2.2) 58 5 (nts ++ [(⟨1, (a : Int), 0, l, h⟩ : NtT)]).length ((nts ++ [(⟨1, (a : Int), 0, l, h⟩ : NtT)]).flatMap eO) :: K.blk bk 9 (([bS [115, 112, 111, 116], x, u, v]).flatMap eG) :: T)) := by
 refine K.enterU (args := [.pointer (some ⟨sb, 0, none⟩), .slice (some ⟨bk, 0, none⟩) 4 4]) Tryz.func67 rfl (n := 129) rfl hst ?_
 refine zR ?_
 refine sr ?_
 refine qn (K.box) fun b2 => ?_
 refine qn (K.box) fun b3 => ?_
 refine sn (sr (K.mA (K.mkFunc) rfl ?_))
 refine zN ?_
 refine qa ?_
 refine sn (sr (ql (K.fA one_22 rfl (K.m0) rfl) ?_))
 refine K.vB (M := [K.blk bk 9 (([bS [115, 112, 111, 116], x, u, v]).flatMap eG)]) _ (K.Sl.of_blk (w0 := w0) (t := 9) (e := eG) (xs := [bS [115, 112, 111, 116], x, u, v]) (fun _ => rfl) rfl) sl_22 rfl rfl rfl (by first | omega | exact Nat.le_of_ble_eq_true rfl) rfl ?_
 intro p11 hp11
 refine zN ?_
 refine ql (K.load1 one_9 rfl (hp11.at1 (K.m5))) ?_
 refine sn (K.block (sr (qp (K.Pure.eq (K.rC rfl rfl) (show _ = Value.bool false from congrArg Value.bool (by kernel_rfl))) ?_)))
 refine qa ?_
 refine sn (K.oA rfl ?_)
 refine sr (qp (K.Pure.eq (K.rC rfl rfl) (show _ = Value.bool false from congrArg Value.bool (by kernel_rfl))) ?_)
 refine qa ?_
 refine sn (K.oA rfl ?_)
 refine sr (qp (K.Pure.eq (K.rC rfl rfl) (show _ = Value.bool false from congrArg Value.bool (by kernel_rfl))) ?_)
 refine qa ?_
 refine sn (K.oA rfl ?_)
 refine K.seq (sr (qp (K.Pure.eq (K.rC rfl rfl) (show _ = Value.bool true from congrArg Value.bool (by kernel_rfl))) ?_))
 refine qa ?_
 refine sn (K.yA rfl ?_)
 refine K.skip (K.dA (K.yA rfl ?_))
 refine sr (ql (K.fA one_22 rfl (K.m0) rfl) ?_)
 refine qp (K.aB sl_22 rfl) ?_
 refine qp (K.eql rfl rfl) ?_
 refine qc (K.nA cal_70 (fun F w hF hw => c70 w)) ?_
 refine sn (K.seq ?_)
 refine K.joinW [7] [74, 75, 76, 77, 78, 79, 80, 81, 82, 83, 84, 85] (fun vi L => ∃ b7 : Nat, vi = [.pointer (some ⟨b7, 0, none⟩)] ∧ L = K.blk b7 58 [.int .i64 1, .int .i64 (a : Int), .int .i64 0, .int .i64 l, .int .i64 h] :: K.blk b3 22 [.slice (some ⟨bk, 0, none⟩) 4 4] :: K.blk b2 127 [.pointer (some ⟨sb, 0, none⟩)] :: K.blk sb 25 [.int .i64 iv, .slice A pts.length c, .slice B nts.length d] :: K.row (.slice A pts.length c) 9 1 pts.length (pts.flatMap eG) :: K.row (.slice B nts.length d) 58 5 nts.length (nts.flatMap eO) :: K.blk bk 9 (([bS [115, 112, 111, 116], x, u, v]).flatMap eG) :: T) ?_ ?_
 ·refine K.iC (A := A) K.m3 (fun hq => ?_)
  refine K.nB [13] uA ?_
  refine dp 0 rfl (K.move) ?_
  refine dm 2 rfl (K.fA one_22 rfl (K.m0) rfl) ?_
  refine K.d_ix (M := [K.blk bk 9 (([bS [115, 112, 111, 116], x, u, v]).flatMap eG)]) 3 _ rfl (K.Sl.of_blk (w0 := w0) (t := 9) (e := eG) (xs := [bS [115, 112, 111, 116], x, u, v]) (fun _ => rfl) rfl) sl_22 rfl rfl rfl (by first | omega | exact Nat.le_of_ble_eq_true rfl) (by kernel_rfl) rfl ?_
  intro p77 hp77
  refine zN ?_
  refine dm 4 rfl (K.load1 one_9 rfl (hp77.at1 (K.m5))) ?_
  refine dm 6 rfl (K.fA one_22 rfl (K.m0) rfl) ?_
  refine K.d_ix (M := [K.blk bk 9 (([bS [115, 112, 111, 116], x, u, v]).flatMap eG)]) 7 _ rfl (K.Sl.of_blk (w0 := w0) (t := 9) (e := eG) (xs := [bS [115, 112, 111, 116], x, u, v]) (fun _ => rfl) rfl) sl_22 rfl rfl rfl (by first | omega | exact Nat.le_of_ble_eq_true rfl) (by kernel_rfl) rfl ?_
  intro p81 hp81
  refine zN ?_
  refine dm 8 rfl (K.load1 one_9 rfl (hp81.at1 (K.m5))) ?_
  refine K.d_two 1 12 (by kernel_rfl) ?_ ?_
  ·refine K.s_call 1 rfl (K.callv_g (first := []) (cap := [.pointer (some ⟨b3, 0, none⟩), .pointer (some ⟨b2, 0, none⟩)]) rfl cal_107 (fun F w hF hw => c107 (ws := [bS [115, 112, 111, 116], x, u, v]) (i := 1) (a := a) (K.PtrL.pass hw (hF _ (K.m0)) (Below.refl _ _)) (K.PtrL.pass hw (hF _ (K.m1)) (Below.refl _ _)) (K.PtrL.pass hw (hF _ (K.m2)) (Below.refl _ _)) (K.Rd.lit hw (hF _ (K.m5)) (fun _ => rfl) (by decide) rfl) (K.Rd.own hw (hF _ (K.m3)) hq (fun _ => rfl) (by decide)) hq (Nat.le_of_ble_eq_true rfl) (Nat.le_of_ble_eq_true rfl) hpl ha h0)) (fun _ h => h) (by kernel_rfl) rfl ?_
   refine zN ?_
   refine K.d_two 5 12 (by kernel_rfl) ?_ ?_
   ·refine K.s_call 5 rfl (K.nA cal_109 (fun F w hF hw => c109 hu.1 hu.2)) (fun _ h => h) (by kernel_rfl) rfl ?_
    refine zN ?_
    refine K.d_two 9 12 (by kernel_rfl) ?_ ?_
    ·refine K.s_call 9 rfl (K.nA cal_109 (fun F w hF hw => c109 hv.1 hv.2)) (fun _ h => h) (by kernel_rfl) rfl ?_
     refine zN ?_
     refine dp 10 rfl (K.build (bl46y _ _)) ?_
     refine dp 11 rfl (K.build (bl58s _ _ _)) ?_
     refine K.d_new 12 rfl (K.alloc zr_58) (fun _ h => h) (by kernel_rfl) rfl ?_
     intro b7
     refine zN ?_
     refine K.eC 13 rfl (K.vA sz_58 rfl rfl rfl rfl (K.rp0)) rfl (by kernel_rfl) rfl ?_
     intro _ _
     refine zN ?_
     refine dd ?_
     exact K.sB (L' := K.blk b7 58 [.int .i64 1, .int .i64 (a : Int), .int .i64 0, .int .i64 l, .int .i64 h] :: K.blk b3 22 [.slice (some ⟨bk, 0, none⟩) 4 4] :: K.blk b2 127 [.pointer (some ⟨sb, 0, none⟩)] :: K.blk sb 25 [.int .i64 iv, .slice A pts.length c, .slice B nts.length d] :: K.row (.slice A pts.length c) 9 1 pts.length (pts.flatMap eG) :: K.row (.slice B nts.length d) 58 5 nts.length (nts.flatMap eO) :: K.blk bk 9 (([bS [115, 112, 111, 116], x, u, v]).flatMap eG) :: T) [.pointer (some ⟨b7, 0, none⟩)] ⟨b7, rfl, rfl⟩ (fun w h => h) (by kernel_rfl)
    refine K.s_new 12 rfl (K.alloc zr_58) (fun _ h => h) (by kernel_rfl) rfl ?_
    intro b7
    refine zN ?_
    refine K.kB 9 rfl (K.nA cal_109 (fun F w hF hw => c109 hv.1 hv.2)) (fun _ h => K.tl h) (by kernel_rfl) rfl ?_
    refine zN ?_
    refine dp 10 rfl (K.build (bl46y _ _)) ?_
    refine dp 11 rfl (K.build (bl58s _ _ _)) ?_
    refine K.eC 13 rfl (K.vA sz_58 rfl rfl rfl rfl (K.rp0)) rfl (by kernel_rfl) rfl ?_
    intro _ _
    refine zN ?_
    refine dd ?_
    exact K.sB (L' := K.blk b7 58 [.int .i64 1, .int .i64 (a : Int), .int .i64 0, .int .i64 l, .int .i64 h] :: K.blk b3 22 [.slice (some ⟨bk, 0, none⟩) 4 4] :: K.blk b2 127 [.pointer (some ⟨sb, 0, none⟩)] :: K.blk sb 25 [.int .i64 iv, .slice A pts.length c, .slice B nts.length d] :: K.row (.slice A pts.length c) 9 1 pts.length (pts.flatMap eG) :: K.row (.slice B nts.length d) 58 5 nts.length (nts.flatMap eO) :: K.blk bk 9 (([bS [115, 112, 111, 116], x, u, v]).flatMap eG) :: T) [.pointer (some ⟨b7, 0, none⟩)] ⟨b7, rfl, rfl⟩ (fun w h => h) (by kernel_rfl)
   refine K.s_new 12 rfl (K.alloc zr_58) (fun _ h => h) (by kernel_rfl) rfl ?_
   intro b7
   refine zN ?_
   refine K.kB 5 rfl (K.nA cal_109 (fun F w hF hw => c109 hu.1 hu.2)) (fun _ h => K.tl h) (by kernel_rfl) rfl ?_
   refine zN ?_
   refine K.kB 9 rfl (K.nA cal_109 (fun F w hF hw => c109 hv.1 hv.2)) (fun _ h => K.tl h) (by kernel_rfl) rfl ?_
   refine zN ?_
   refine dp 10 rfl (K.build (bl46y _ _)) ?_
   refine dp 11 rfl (K.build (bl58s _ _ _)) ?_
   refine K.eC 13 rfl (K.vA sz_58 rfl rfl rfl rfl (K.rp0)) rfl (by kernel_rfl) rfl ?_
   intro _ _
   refine zN ?_
   refine dd ?_
   exact K.sB (L' := K.blk b7 58 [.int .i64 1, .int .i64 (a : Int), .int .i64 0, .int .i64 l, .int .i64 h] :: K.blk b3 22 [.slice (some ⟨bk, 0, none⟩) 4 4] :: K.blk b2 127 [.pointer (some ⟨sb, 0, none⟩)] :: K.blk sb 25 [.int .i64 iv, .slice A pts.length c, .slice B nts.length d] :: K.row (.slice A pts.length c) 9 1 pts.length (pts.flatMap eG) :: K.row (.slice B nts.length d) 58 5 nts.length (nts.flatMap eO) :: K.blk bk 9 (([bS [115, 112, 111, 116], x, u, v]).flatMap eG) :: T) [.pointer (some ⟨b7, 0, none⟩)] ⟨b7, rfl, rfl⟩ (fun w h => h) (by kernel_rfl)
  refine K.s_new 12 rfl (K.alloc zr_58) (fun _ h => h) (by kernel_rfl) rfl ?_
  intro b7
  refine zN ?_
  refine K.kB 1 rfl (K.callv_g (first := []) (cap := [.pointer (some ⟨b3, 0, none⟩), .pointer (some ⟨b2, 0, none⟩)]) rfl cal_107 (fun F w hF hw => c107 (ws := [bS [115, 112, 111, 116], x, u, v]) (i := 1) (a := a) (K.PtrL.pass hw (hF _ (K.m1)) (Below.refl _ _)) (K.PtrL.pass hw (hF _ (K.m2)) (Below.refl _ _)) (K.PtrL.pass hw (hF _ (K.m3)) (Below.refl _ _)) (K.Rd.lit hw (hF _ (K.m6)) (fun _ => rfl) (by decide) rfl) (K.Rd.own hw (hF _ (K.m4)) hq (fun _ => rfl) (by decide)) hq (Nat.le_of_ble_eq_true rfl) (Nat.le_of_ble_eq_true rfl) hpl ha h0)) (fun _ h => K.tl h) (by kernel_rfl) rfl ?_
  refine zN ?_
  refine K.kB 5 rfl (K.nA cal_109 (fun F w hF hw => c109 hu.1 hu.2)) (fun _ h => K.tl h) (by kernel_rfl) rfl ?_
  refine zN ?_
  refine K.kB 9 rfl (K.nA cal_109 (fun F w hF hw => c109 hv.1 hv.2)) (fun _ h => K.tl h) (by kernel_rfl) rfl ?_
  refine zN ?_
  refine dp 10 rfl (K.build (bl46y _ _)) ?_
  refine dp 11 rfl (K.build (bl58s _ _ _)) ?_
  refine K.eC 13 rfl (K.vA sz_58 rfl rfl rfl rfl (K.rp0)) rfl (by kernel_rfl) rfl ?_
  intro _ _
  refine zN ?_
  refine dd ?_
  exact K.sB (L' := K.blk b7 58 [.int .i64 1, .int .i64 (a : Int), .int .i64 0, .int .i64 l, .int .i64 h] :: K.blk b3 22 [.slice (some ⟨bk, 0, none⟩) 4 4] :: K.blk b2 127 [.pointer (some ⟨sb, 0, none⟩)] :: K.blk sb 25 [.int .i64 iv, .slice A pts.length c, .slice B nts.length d] :: K.row (.slice A pts.length c) 9 1 pts.length (pts.flatMap eG) :: K.row (.slice B nts.length d) 58 5 nts.length (nts.flatMap eO) :: K.blk bk 9 (([bS [115, 112, 111, 116], x, u, v]).flatMap eG) :: T) [.pointer (some ⟨b7, 0, none⟩)] ⟨b7, rfl, rfl⟩ (fun w h => h) (by kernel_rfl)
 intro vi vr L hJ
 obtain ⟨b7, rfl, rfl⟩ := hJ
 refine zY ?_
 refine K.dA (K.seq (sr (ql (K.fA one_22 rfl (K.m1) rfl) ?_)))
 refine K.vB (M := [K.blk bk 9 (([bS [115, 112, 111, 116], x, u, v]).flatMap eG)]) _ (K.Sl.of_blk (w0 := w0) (t := 9) (e := eG) (xs := [bS [115, 112, 111, 116], x, u, v]) (fun _ => rfl) rfl) sl_22 rfl rfl rfl (by first | omega | exact Nat.le_of_ble_eq_true rfl) rfl ?_
 intro p87 hp87
 refine zN ?_
 refine ql (K.load1 one_9 rfl (hp87.at1 (K.m6))) ?_
 refine qp (K.Pure.eq (K.rC rfl rfl) (show _ = Value.bool false from congrArg Value.bool (by kernel_rfl))) ?_
 refine sn (K.oA rfl ?_)
 refine K.skip (K.dA ?_)
 refine K.permH (L' := _ :: _ :: _ :: _ :: _ :: _ :: _ :: _) (List.Perm.trans (List.perm_middle (l₁ := [_, _, _, _, _])) (List.Perm.cons _ Kq.p0)) ?_
 refine K.draw_drop 1 [10] uA ?_
 refine K.aC 0 rfl (K.fA one_127 rfl (K.m2) rfl) (fun _ h => K.tl h) (by kernel_rfl) (by kernel_rfl) rfl ?_
 refine zN ?_
 refine K.aC 1 rfl (K.fA one_127 rfl (K.m2) rfl) (fun _ h => K.tl h) (by kernel_rfl) (by kernel_rfl) rfl ?_
 refine zN ?_
 refine dp 2 rfl (K.nilCheck rfl) ?_
 refine dp 3 rfl (K.aA fo_25_2 rfl) ?_
 refine K.aC 4 rfl (K.fA one_23 rfl (K.m3) rfl) (fun _ h => K.tl h) (by kernel_rfl) (by kernel_rfl) rfl ?_
 refine zN ?_
 refine K.aC 5 rfl (K.jA ag_58 rfl (K.m0) rfl) (fun _ h => K.tl h) (by kernel_rfl) (by kernel_rfl) rfl ?_
 refine zN ?_
 refine K.d_new 6 rfl (K.buildSlice (bs23 _ _ _ _ _)) (fun _ h => K.tl h) (by kernel_rfl) rfl ?_
 intro b97
 refine zN ?_
 refine K.sC 7 rfl (K.append el_23 rfl rfl (K.PtrL.own' (K.m0)) rfl rfl (by decide) (by omega) (by omega) (fun _ _ => K.rp1)) (fun _ => fun _ h => K.tl (K.tl h)) (by kernel_rfl) rfl ?_
 rintro ⟨g98, c98⟩ _
 refine zN ?_
 refine dp 8 rfl (K.nilCheck rfl) ?_
 refine dp 9 rfl (K.aA fo_25_2 rfl) ?_
 refine K.eC 10 rfl (K.store sz_23 rfl rfl rfl rfl (K.rp5)) rfl (by kernel_rfl) rfl ?_
 intro _ _
 refine zN ?_
 refine dd (K.kA ?_)
 refine K.end_normal (fun w _ => K.rB rfl w) ?_
 have e1 : (nts ++ [(⟨1, (a : Int), 0, l, h⟩ : NtT)]).length = nts.length + 1 := by rw [List.length_append]; rfl
 refine K.weak (L' := _ :: _ :: _ :: _ :: _) ((Kq.s1 (Kq.sc (Kq.s1 (Kq.s1 (Kq.s1 Kq.s0)))))) ?_
 refine K.permH (L' := _ :: _ :: _ :: _ :: _) (Kq.pz ((Kq.pz (Kq.p0)))) ?_
 exact K.retsU ((A, c), (some ⟨g98, 0, none⟩, c98)) trivial rfl (by rw [e1, ← eO_snoc]; exact List.Sublist.refl _)

set_option maxRecDepth 100000 in
set_option maxHeartbeats 2000000 in
theorem c67_contour {iv : Int} {pts : List ByteArray} {nts : List NtT} {A B : Option Addr} {c d sb bk : Nat} {T : List K.Chunk} {w0 w : World} {x u v : ByteArray} (hst : K.St w0 (K.blk sb 25 [.int .i64 iv, .slice A pts.length c, .slice B nts.length d] :: K.row (.slice A pts.length c) 9 1 pts.length (pts.flatMap eG) :: K.row (.slice B nts.length d) 58 5 nts.length (nts.flatMap eO) :: K.blk bk 9 (([bS [99, 111, 110, 116, 111, 117, 114], x, u, v]).flatMap eG) :: T) w) {a : Nat} {l h : Int} (hn : nts.length ≤ 1000) (hpl : pts.length ≤ 1000) (h0 : 1 ≤ pts.length) (ha : Lib.idxOfS pts x = (a : Int)) (hu : (u.size ≤ 18 ∧ Lib.atoi u.data.toList = some l)) (hv : (v.size ≤ 18 ∧ Lib.atoi v.data.toList = some h)) :
  Calls Tryz.prog 67 [.pointer (some ⟨sb, 0, none⟩), .slice (some ⟨bk, 0, none⟩) 4 4].toArray w (K.RetU (fun _ : (Option Addr × Nat) × (Option Addr × Nat) => True) (fun _ => .tuple #[]) w0 (fun z => K.blk sb 25 [.int .i64 iv, .slice z.1.1 pts.length z.1.2, .slice z.2.1 (nts ++ [(⟨2, (a : Int), 0, l, h⟩ : NtT)]).length z.2.2] :: K.row (.slice z.1.1 pts.length z.1.2) 9 1 pts.length (pts.flatMap eG) :: K.row (.slice z.2.1 (nts ++ [(⟨2, (a : Int), 0, l, h⟩ : NtT)]).length z.2.2) 58 5 (nts ++ [(⟨2, (a : Int), 0, l, h⟩ : NtT)]).length ((nts ++ [(⟨2, (a : Int), 0, l, h⟩ : NtT)]).flatMap eO) :: K.blk bk 9 (([bS [99, 111, 110, 116, 111, 117, 114], x, u, v]).flatMap eG) :: T)) := by
 refine K.enterU (args := [.pointer (some ⟨sb, 0, none⟩), .slice (some ⟨bk, 0, none⟩) 4 4]) Tryz.func67 rfl (n := 129) rfl hst ?_
 refine zR ?_
 refine sr ?_
 refine qn (K.box) fun b2 => ?_
 refine qn (K.box) fun b3 => ?_
 refine sn (sr (K.mA (K.mkFunc) rfl ?_))
 refine zN ?_
 refine qa ?_
 refine sn (sr (ql (K.fA one_22 rfl (K.m0) rfl) ?_))
 refine K.vB (M := [K.blk bk 9 (([bS [99, 111, 110, 116, 111, 117, 114], x, u, v]).flatMap eG)]) _ (K.Sl.of_blk (w0 := w0) (t := 9) (e := eG) (xs := [bS [99, 111, 110, 116, 111, 117, 114], x, u, v]) (fun _ => rfl) rfl) sl_22 rfl rfl rfl (by first | omega | exact Nat.le_of_ble_eq_true rfl) rfl ?_
 intro p11 hp11
 refine zN ?_
 refine ql (K.load1 one_9 rfl (hp11.at1 (K.m5))) ?_
 refine sn (K.block (sr (qp (K.Pure.eq (K.rC rfl rfl) (show _ = Value.bool false from congrArg Value.bool (by kernel_rfl))) ?_)))
 refine qa ?_
 refine sn (K.oA rfl ?_)
 refine sr (qp (K.Pure.eq (K.rC rfl rfl) (show _ = Value.bool false from congrArg Value.bool (by kernel_rfl))) ?_)
 refine qa ?_
 refine sn (K.oA rfl ?_)
 refine sr (qp (K.Pure.eq (K.rC rfl rfl) (show _ = Value.bool false from congrArg Value.bool (by kernel_rfl))) ?_)
 refine qa ?_
 refine sn (K.oA rfl ?_)
 refine K.seq (sr (qp (K.Pure.eq (K.rC rfl rfl) (show _ = Value.bool false from congrArg Value.bool (by kernel_rfl))) ?_))
 refine qa ?_
 refine sn (K.oA rfl ?_)
 refine K.gA (qp (K.Pure.eq (K.rC rfl rfl) (show _ = Value.bool true from congrArg Value.bool (by kernel_rfl))) ?_)
 refine qa ?_
 refine sn (K.yA rfl ?_)
 refine sr (ql (K.fA one_22 rfl (K.m0) rfl) ?_)
 refine qp (K.aB sl_22 rfl) ?_
 refine qp (K.eql rfl rfl) ?_
 refine qc (K.nA cal_70 (fun F w hF hw => c70 w)) ?_
 refine sn (K.seq ?_)
 refine K.joinW [7] [74, 75, 76, 77, 78, 79, 80, 81, 82, 83, 84, 85] (fun vi L => ∃ b7 : Nat, vi = [.pointer (some ⟨b7, 0, none⟩)] ∧ L = K.blk b7 58 [.int .i64 1, .int .i64 (a : Int), .int .i64 0, .int .i64 l, .int .i64 h] :: K.blk b3 22 [.slice (some ⟨bk, 0, none⟩) 4 4] :: K.blk b2 127 [.pointer (some ⟨sb, 0, none⟩)] :: K.blk sb 25 [.int .i64 iv, .slice A pts.length c, .slice B nts.length d] :: K.row (.slice A pts.length c) 9 1 pts.length (pts.flatMap eG) :: K.row (.slice B nts.length d) 58 5 nts.length (nts.flatMap eO) :: K.blk bk 9 (([bS [99, 111, 110, 116, 111, 117, 114], x, u, v]).flatMap eG) :: T) ?_ ?_
 ·refine K.iC (A := A) K.m3 (fun hq => ?_)
  refine K.nB [13] uA ?_
  refine dp 0 rfl (K.move) ?_
  refine dm 2 rfl (K.fA one_22 rfl (K.m0) rfl) ?_
  refine K.d_ix (M := [K.blk bk 9 (([bS [99, 111, 110, 116, 111, 117, 114], x, u, v]).flatMap eG)]) 3 _ rfl (K.Sl.of_blk (w0 := w0) (t := 9) (e := eG) (xs := [bS [99, 111, 110, 116, 111, 117, 114], x, u, v]) (fun _ => rfl) rfl) sl_22 rfl rfl rfl (by first | omega | exact Nat.le_of_ble_eq_true rfl) (by kernel_rfl) rfl ?_
  intro p77 hp77
  refine zN ?_
  refine dm 4 rfl (K.load1 one_9 rfl (hp77.at1 (K.m5))) ?_
  refine dm 6 rfl (K.fA one_22 rfl (K.m0) rfl) ?_
  refine K.d_ix (M := [K.blk bk 9 (([bS [99, 111, 110, 116, 111, 117, 114], x, u, v]).flatMap eG)]) 7 _ rfl (K.Sl.of_blk (w0 := w0) (t := 9) (e := eG) (xs := [bS [99, 111, 110, 116, 111, 117, 114], x, u, v]) (fun _ => rfl) rfl) sl_22 rfl rfl rfl (by first | omega | exact Nat.le_of_ble_eq_true rfl) (by kernel_rfl) rfl ?_
  intro p81 hp81
  refine zN ?_
  refine dm 8 rfl (K.load1 one_9 rfl (hp81.at1 (K.m5))) ?_
  refine K.d_two 1 12 (by kernel_rfl) ?_ ?_
  ·refine K.s_call 1 rfl (K.callv_g (first := []) (cap := [.pointer (some ⟨b3, 0, none⟩), .pointer (some ⟨b2, 0, none⟩)]) rfl cal_107 (fun F w hF hw => c107 (ws := [bS [99, 111, 110, 116, 111, 117, 114], x, u, v]) (i := 1) (a := a) (K.PtrL.pass hw (hF _ (K.m0)) (Below.refl _ _)) (K.PtrL.pass hw (hF _ (K.m1)) (Below.refl _ _)) (K.PtrL.pass hw (hF _ (K.m2)) (Below.refl _ _)) (K.Rd.lit hw (hF _ (K.m5)) (fun _ => rfl) (by decide) rfl) (K.Rd.own hw (hF _ (K.m3)) hq (fun _ => rfl) (by decide)) hq (Nat.le_of_ble_eq_true rfl) (Nat.le_of_ble_eq_true rfl) hpl ha h0)) (fun _ h => h) (by kernel_rfl) rfl ?_
   refine zN ?_
   refine K.d_two 5 12 (by kernel_rfl) ?_ ?_
   ·refine K.s_call 5 rfl (K.nA cal_109 (fun F w hF hw => c109 hu.1 hu.2)) (fun _ h => h) (by kernel_rfl) rfl ?_
    refine zN ?_
    refine K.d_two 9 12 (by kernel_rfl) ?_ ?_
    ·refine K.s_call 9 rfl (K.nA cal_109 (fun F w hF hw => c109 hv.1 hv.2)) (fun _ h => h) (by kernel_rfl) rfl ?_
     refine zN ?_
     refine dp 10 rfl (K.build (bl46y _ _)) ?_
     refine dp 11 rfl (K.build (bl58s _ _ _)) ?_
     refine K.d_new 12 rfl (K.alloc zr_58) (fun _ h => h) (by kernel_rfl) rfl ?_
     intro b7
     refine zN ?_
     refine K.eC 13 rfl (K.vA sz_58 rfl rfl rfl rfl (K.rp0)) rfl (by kernel_rfl) rfl ?_
     intro _ _
     refine zN ?_
     refine dd ?_
     exact K.sB (L' := K.blk b7 58 [.int .i64 1, .int .i64 (a : Int), .int .i64 0, .int .i64 l, .int .i64 h] :: K.blk b3 22 [.slice (some ⟨bk, 0, none⟩) 4 4] :: K.blk b2 127 [.pointer (some ⟨sb, 0, none⟩)] :: K.blk sb 25 [.int .i64 iv, .slice A pts.length c, .slice B nts.length d] :: K.row (.slice A pts.length c) 9 1 pts.length (pts.flatMap eG) :: K.row (.slice B nts.length d) 58 5 nts.length (nts.flatMap eO) :: K.blk bk 9 (([bS [99, 111, 110, 116, 111, 117, 114], x, u, v]).flatMap eG) :: T) [.pointer (some ⟨b7, 0, none⟩)] ⟨b7, rfl, rfl⟩ (fun w h => h) (by kernel_rfl)
    refine K.s_new 12 rfl (K.alloc zr_58) (fun _ h => h) (by kernel_rfl) rfl ?_
    intro b7
    refine zN ?_
    refine K.kB 9 rfl (K.nA cal_109 (fun F w hF hw => c109 hv.1 hv.2)) (fun _ h => K.tl h) (by kernel_rfl) rfl ?_
    refine zN ?_
    refine dp 10 rfl (K.build (bl46y _ _)) ?_
    refine dp 11 rfl (K.build (bl58s _ _ _)) ?_
    refine K.eC 13 rfl (K.vA sz_58 rfl rfl rfl rfl (K.rp0)) rfl (by kernel_rfl) rfl ?_
    intro _ _
    refine zN ?_
    refine dd ?_
    exact K.sB (L' := K.blk b7 58 [.int .i64 1, .int .i64 (a : Int), .int .i64 0, .int .i64 l, .int .i64 h] :: K.blk b3 22 [.slice (some ⟨bk, 0, none⟩) 4 4] :: K.blk b2 127 [.pointer (some ⟨sb, 0, none⟩)] :: K.blk sb 25 [.int .i64 iv, .slice A pts.length c, .slice B nts.length d] :: K.row (.slice A pts.length c) 9 1 pts.length (pts.flatMap eG) :: K.row (.slice B nts.length d) 58 5 nts.length (nts.flatMap eO) :: K.blk bk 9 (([bS [99, 111, 110, 116, 111, 117, 114], x, u, v]).flatMap eG) :: T) [.pointer (some ⟨b7, 0, none⟩)] ⟨b7, rfl, rfl⟩ (fun w h => h) (by kernel_rfl)
   refine K.s_new 12 rfl (K.alloc zr_58) (fun _ h => h) (by kernel_rfl) rfl ?_
   intro b7
   refine zN ?_
   refine K.kB 5 rfl (K.nA cal_109 (fun F w hF hw => c109 hu.1 hu.2)) (fun _ h => K.tl h) (by kernel_rfl) rfl ?_
   refine zN ?_
   refine K.kB 9 rfl (K.nA cal_109 (fun F w hF hw => c109 hv.1 hv.2)) (fun _ h => K.tl h) (by kernel_rfl) rfl ?_
   refine zN ?_
   refine dp 10 rfl (K.build (bl46y _ _)) ?_
   refine dp 11 rfl (K.build (bl58s _ _ _)) ?_
   refine K.eC 13 rfl (K.vA sz_58 rfl rfl rfl rfl (K.rp0)) rfl (by kernel_rfl) rfl ?_
   intro _ _
   refine zN ?_
   refine dd ?_
   exact K.sB (L' := K.blk b7 58 [.int .i64 1, .int .i64 (a : Int), .int .i64 0, .int .i64 l, .int .i64 h] :: K.blk b3 22 [.slice (some ⟨bk, 0, none⟩) 4 4] :: K.blk b2 127 [.pointer (some ⟨sb, 0, none⟩)] :: K.blk sb 25 [.int .i64 iv, .slice A pts.length c, .slice B nts.length d] :: K.row (.slice A pts.length c) 9 1 pts.length (pts.flatMap eG) :: K.row (.slice B nts.length d) 58 5 nts.length (nts.flatMap eO) :: K.blk bk 9 (([bS [99, 111, 110, 116, 111, 117, 114], x, u, v]).flatMap eG) :: T) [.pointer (some ⟨b7, 0, none⟩)] ⟨b7, rfl, rfl⟩ (fun w h => h) (by kernel_rfl)
  refine K.s_new 12 rfl (K.alloc zr_58) (fun _ h => h) (by kernel_rfl) rfl ?_
  intro b7
  refine zN ?_
  refine K.kB 1 rfl (K.callv_g (first := []) (cap := [.pointer (some ⟨b3, 0, none⟩), .pointer (some ⟨b2, 0, none⟩)]) rfl cal_107 (fun F w hF hw => c107 (ws := [bS [99, 111, 110, 116, 111, 117, 114], x, u, v]) (i := 1) (a := a) (K.PtrL.pass hw (hF _ (K.m1)) (Below.refl _ _)) (K.PtrL.pass hw (hF _ (K.m2)) (Below.refl _ _)) (K.PtrL.pass hw (hF _ (K.m3)) (Below.refl _ _)) (K.Rd.lit hw (hF _ (K.m6)) (fun _ => rfl) (by decide) rfl) (K.Rd.own hw (hF _ (K.m4)) hq (fun _ => rfl) (by decide)) hq (Nat.le_of_ble_eq_true rfl) (Nat.le_of_ble_eq_true rfl) hpl ha h0)) (fun _ h => K.tl h) (by kernel_rfl) rfl ?_
  refine zN ?_
  refine K.kB 5 rfl (K.nA cal_109 (fun F w hF hw => c109 hu.1 hu.2)) (fun _ h => K.tl h) (by kernel_rfl) rfl ?_
  refine zN ?_
  refine K.kB 9 rfl (K.nA cal_109 (fun F w hF hw => c109 hv.1 hv.2)) (fun _ h => K.tl h) (by kernel_rfl) rfl ?_
  refine zN ?_
  refine dp 10 rfl (K.build (bl46y _ _)) ?_
  refine dp 11 rfl (K.build (bl58s _ _ _)) ?_
  refine K.eC 13 rfl (K.vA sz_58 rfl rfl rfl rfl (K.rp0)) rfl (by kernel_rfl) rfl ?_
  intro _ _
  refine zN ?_
  refine dd ?_
  exact K.sB (L' := K.blk b7 58 [.int .i64 1, .int .i64 (a : Int), .int .i64 0, .int .i64 l, .int .i64 h] :: K.blk b3 22 [.slice (some ⟨bk, 0, none⟩) 4 4] :: K.blk b2 127 [.pointer (some ⟨sb, 0, none⟩)] :: K.blk sb 25 [.int .i64 iv, .slice A pts.length c, .slice B nts.length d] :: K.row (.slice A pts.length c) 9 1 pts.length (pts.flatMap eG) :: K.row (.slice B nts.length d) 58 5 nts.length (nts.flatMap eO) :: K.blk bk 9 (([bS [99, 111, 110, 116, 111, 117, 114], x, u, v]).flatMap eG) :: T) [.pointer (some ⟨b7, 0, none⟩)] ⟨b7, rfl, rfl⟩ (fun w h => h) (by kernel_rfl)
 intro vi vr L hJ
 obtain ⟨b7, rfl, rfl⟩ := hJ
 refine zY ?_
 refine K.dA (K.seq (sr (ql (K.fA one_22 rfl (K.m1) rfl) ?_)))
 refine K.vB (M := [K.blk bk 9 (([bS [99, 111, 110, 116, 111, 117, 114], x, u, v]).flatMap eG)]) _ (K.Sl.of_blk (w0 := w0) (t := 9) (e := eG) (xs := [bS [99, 111, 110, 116, 111, 117, 114], x, u, v]) (fun _ => rfl) rfl) sl_22 rfl rfl rfl (by first | omega | exact Nat.le_of_ble_eq_true rfl) rfl ?_
 intro p87 hp87
 refine zN ?_
 refine ql (K.load1 one_9 rfl (hp87.at1 (K.m6))) ?_
 refine qp (K.Pure.eq (K.rC rfl rfl) (show _ = Value.bool true from congrArg Value.bool (by kernel_rfl))) ?_
 refine sn (K.yA rfl ?_)
 refine K.gA (qp (K.aA fo_58_0 rfl) ?_)
 refine qt (K.store sz_3 rfl rfl rfl rfl (K.rp0)) ?_
 refine sn ?_
 refine K.permH (L' := _ :: _ :: _ :: _ :: _ :: _ :: _ :: _) (List.Perm.trans (List.perm_middle (l₁ := [_, _, _, _, _])) (List.Perm.cons _ Kq.p0)) ?_
 refine K.draw_drop 1 [10] uA ?_
 refine K.aC 0 rfl (K.fA one_127 rfl (K.m2) rfl) (fun _ h => K.tl h) (by kernel_rfl) (by kernel_rfl) rfl ?_
 refine zN ?_
 refine K.aC 1 rfl (K.fA one_127 rfl (K.m2) rfl) (fun _ h => K.tl h) (by kernel_rfl) (by kernel_rfl) rfl ?_
 refine zN ?_
 refine dp 2 rfl (K.nilCheck rfl) ?_
 refine dp 3 rfl (K.aA fo_25_2 rfl) ?_
 refine K.aC 4 rfl (K.fA one_23 rfl (K.m3) rfl) (fun _ h => K.tl h) (by kernel_rfl) (by kernel_rfl) rfl ?_
 refine zN ?_
 refine K.aC 5 rfl (K.jA ag_58 rfl (K.m0) rfl) (fun _ h => K.tl h) (by kernel_rfl) (by kernel_rfl) rfl ?_
 refine zN ?_
 refine K.d_new 6 rfl (K.buildSlice (bs23 _ _ _ _ _)) (fun _ h => K.tl h) (by kernel_rfl) rfl ?_
 intro b97
 refine zN ?_
 refine K.sC 7 rfl (K.append el_23 rfl rfl (K.PtrL.own' (K.m0)) rfl rfl (by decide) (by omega) (by omega) (fun _ _ => K.rp1)) (fun _ => fun _ h => K.tl (K.tl h)) (by kernel_rfl) rfl ?_
 rintro ⟨g98, c98⟩ _
 refine zN ?_
 refine dp 8 rfl (K.nilCheck rfl) ?_
 refine dp 9 rfl (K.aA fo_25_2 rfl) ?_
 refine K.eC 10 rfl (K.store sz_23 rfl rfl rfl rfl (K.rp5)) rfl (by kernel_rfl) rfl ?_
 intro _ _
 refine zN ?_
 refine dd (K.kA ?_)
 refine K.end_normal (fun w _ => K.rB rfl w) ?_
 have e1 : (nts ++ [(⟨2, (a : Int), 0, l, h⟩ : NtT)]).length = nts.length + 1 := by rw [List.length_append]; rfl
 refine K.weak (L' := _ :: _ :: _ :: _ :: _) ((Kq.s1 (Kq.sc (Kq.s1 (Kq.s1 (Kq.s1 Kq.s0)))))) ?_
 refine K.permH (L' := _ :: _ :: _ :: _ :: _) (Kq.pz ((Kq.pz (Kq.p0)))) ?_
 exact K.retsU ((A, c), (some ⟨g98, 0, none⟩, c98)) trivial rfl (by rw [e1, ← eO_snoc]; exact List.Sublist.refl _)

set_option maxRecDepth 100000 in
set_option maxHeartbeats 2000000 in
theorem c67_slope {iv : Int} {pts : List ByteArray} {nts : List NtT} {A B : Option Addr} {c d sb bk : Nat} {T : List K.Chunk} {w0 w : World} {x y u v : ByteArray} (hst : K.St w0 (K.blk sb 25 [.int .i64 iv, .slice A pts.length c, .slice B nts.length d] :: K.row (.slice A pts.length c) 9 1 pts.length (pts.flatMap eG) :: K.row (.slice B nts.length d) 58 5 nts.length (nts.flatMap eO) :: K.blk bk 9 (([bS [115, 108, 111, 112, 101], x, y, u, v]).flatMap eG) :: T) w) {a b : Nat} {l h : Int} (hn : nts.length ≤ 1000) (hpl : pts.length ≤ 1000) (h0 : 1 ≤ pts.length) (ha : Lib.idxOfS pts x = (a : Int)) (hb : Lib.idxOfS pts y = (b : Int)) (hu : (u.size ≤ 18 ∧ Lib.atoi u.data.toList = some l)) (hv : (v.size ≤ 18 ∧ Lib.atoi v.data.toList = some h)) :
  Calls Tryz.prog 67 [.pointer (some ⟨sb, 0, none⟩), .slice (some ⟨bk, 0, none⟩) 5 5].toArray w (K.RetU (fun _ : (Option Addr × Nat) × (Option Addr × Nat) => True) (fun _ => .tuple #[]) w0 (fun z => K.blk sb 25 [.int .i64 iv, .slice z.1.1 pts.length z.1.2, .slice z.2.1 (nts ++ [(⟨4, (a : Int), (b : Int), l, h⟩ : NtT)]).length z.2.2] :: K.row (.slice z.1.1 pts.length z.1.2) 9 1 pts.length (pts.flatMap eG) :: K.row (.slice z.2.1 (nts ++ [(⟨4, (a : Int), (b : Int), l, h⟩ : NtT)]).length z.2.2) 58 5 (nts ++ [(⟨4, (a : Int), (b : Int), l, h⟩ : NtT)]).length ((nts ++ [(⟨4, (a : Int), (b : Int), l, h⟩ : NtT)]).flatMap eO) :: K.blk bk 9 (([bS [115, 108, 111, 112, 101], x, y, u, v]).flatMap eG) :: T)) := by
 refine K.enterU (args := [.pointer (some ⟨sb, 0, none⟩), .slice (some ⟨bk, 0, none⟩) 5 5]) Tryz.func67 rfl (n := 129) rfl hst ?_
 refine zR ?_
 refine sr ?_
 refine qn (K.box) fun b2 => ?_
 refine qn (K.box) fun b3 => ?_
 refine sn (sr (K.mA (K.mkFunc) rfl ?_))
 refine zN ?_
 refine qa ?_
 refine sn (sr (ql (K.fA one_22 rfl (K.m0) rfl) ?_))
 refine K.vB (M := [K.blk bk 9 (([bS [115, 108, 111, 112, 101], x, y, u, v]).flatMap eG)]) _ (K.Sl.of_blk (w0 := w0) (t := 9) (e := eG) (xs := [bS [115, 108, 111, 112, 101], x, y, u, v]) (fun _ => rfl) rfl) sl_22 rfl rfl rfl (by first | omega | exact Nat.le_of_ble_eq_true rfl) rfl ?_
 intro p11 hp11
 refine zN ?_
 refine ql (K.load1 one_9 rfl (hp11.at1 (K.m5))) ?_
 refine sn (K.block (sr (qp (K.Pure.eq (K.rC rfl rfl) (show _ = Value.bool false from congrArg Value.bool (by kernel_rfl))) ?_)))
 refine qa ?_
 refine sn (K.oA rfl ?_)
 refine sr (qp (K.Pure.eq (K.rC rfl rfl) (show _ = Value.bool false from congrArg Value.bool (by kernel_rfl))) ?_)
 refine qa ?_
 refine sn (K.oA rfl ?_)
 refine sr (qp (K.Pure.eq (K.rC rfl rfl) (show _ = Value.bool false from congrArg Value.bool (by kernel_rfl))) ?_)
 refine qa ?_
 refine sn (K.oA rfl ?_)
 refine K.seq (sr (qp (K.Pure.eq (K.rC rfl rfl) (show _ = Value.bool false from congrArg Value.bool (by kernel_rfl))) ?_))
 refine qa ?_
 refine sn (K.oA rfl ?_)
 refine K.gA (qp (K.Pure.eq (K.rC rfl rfl) (show _ = Value.bool false from congrArg Value.bool (by kernel_rfl))) ?_)
 refine qa ?_
 refine sn (K.oA rfl ?_)
 refine sr (qp (K.Pure.eq (K.rC rfl rfl) (show _ = Value.bool true from congrArg Value.bool (by kernel_rfl))) ?_)
 refine qa ?_
 refine sn (K.yA rfl ?_)
 refine sr (ql (K.fA one_22 rfl (K.m0) rfl) ?_)
 refine qp (K.aB sl_22 rfl) ?_
 refine qp (K.eql rfl rfl) ?_
 refine qc (K.nA cal_70 (fun F w hF hw => c70 w)) ?_
 refine sn (K.seq ?_)
 refine K.joinW [8] [107, 108, 109, 110, 111, 112, 113, 114, 115, 116, 117, 118, 119, 120] (fun vi L => ∃ b8 : Nat, vi = [.pointer (some ⟨b8, 0, none⟩)] ∧ L = K.blk b8 58 [.int .i64 4, .int .i64 (a : Int), .int .i64 (b : Int), .int .i64 l, .int .i64 h] :: K.blk b3 22 [.slice (some ⟨bk, 0, none⟩) 5 5] :: K.blk b2 127 [.pointer (some ⟨sb, 0, none⟩)] :: K.blk sb 25 [.int .i64 iv, .slice A pts.length c, .slice B nts.length d] :: K.row (.slice A pts.length c) 9 1 pts.length (pts.flatMap eG) :: K.row (.slice B nts.length d) 58 5 nts.length (nts.flatMap eO) :: K.blk bk 9 (([bS [115, 108, 111, 112, 101], x, y, u, v]).flatMap eG) :: T) ?_ ?_
 ·refine K.iC (A := A) K.m3 (fun hq => ?_)
  refine K.nB [15] uA ?_
  refine dp 0 rfl (K.move) ?_
  refine dp 2 rfl (K.move) ?_
  refine dm 4 rfl (K.fA one_22 rfl (K.m0) rfl) ?_
  refine K.d_ix (M := [K.blk bk 9 (([bS [115, 108, 111, 112, 101], x, y, u, v]).flatMap eG)]) 5 _ rfl (K.Sl.of_blk (w0 := w0) (t := 9) (e := eG) (xs := [bS [115, 108, 111, 112, 101], x, y, u, v]) (fun _ => rfl) rfl) sl_22 rfl rfl rfl (by first | omega | exact Nat.le_of_ble_eq_true rfl) (by kernel_rfl) rfl ?_
  intro p112 hp112
  refine zN ?_
  refine dm 6 rfl (K.load1 one_9 rfl (hp112.at1 (K.m5))) ?_
  refine dm 8 rfl (K.fA one_22 rfl (K.m0) rfl) ?_
  refine K.d_ix (M := [K.blk bk 9 (([bS [115, 108, 111, 112, 101], x, y, u, v]).flatMap eG)]) 9 _ rfl (K.Sl.of_blk (w0 := w0) (t := 9) (e := eG) (xs := [bS [115, 108, 111, 112, 101], x, y, u, v]) (fun _ => rfl) rfl) sl_22 rfl rfl rfl (by first | omega | exact Nat.le_of_ble_eq_true rfl) (by kernel_rfl) rfl ?_
  intro p116 hp116
  refine zN ?_
  refine dm 10 rfl (K.load1 one_9 rfl (hp116.at1 (K.m5))) ?_
  refine K.d_two 1 14 (by kernel_rfl) ?_ ?_
  ·refine K.s_call 1 rfl (K.callv_g (first := []) (cap := [.pointer (some ⟨b3, 0, none⟩), .pointer (some ⟨b2, 0, none⟩)]) rfl cal_107 (fun F w hF hw => c107 (ws := [bS [115, 108, 111, 112, 101], x, y, u, v]) (i := 1) (a := a) (K.PtrL.pass hw (hF _ (K.m0)) (Below.refl _ _)) (K.PtrL.pass hw (hF _ (K.m1)) (Below.refl _ _)) (K.PtrL.pass hw (hF _ (K.m2)) (Below.refl _ _)) (K.Rd.lit hw (hF _ (K.m5)) (fun _ => rfl) (by decide) rfl) (K.Rd.own hw (hF _ (K.m3)) hq (fun _ => rfl) (by decide)) hq (Nat.le_of_ble_eq_true rfl) (Nat.le_of_ble_eq_true rfl) hpl ha h0)) (fun _ h => h) (by kernel_rfl) rfl ?_
   refine zN ?_
   refine K.d_two 3 14 (by kernel_rfl) ?_ ?_
   ·refine K.s_call 3 rfl (K.callv_g (first := []) (cap := [.pointer (some ⟨b3, 0, none⟩), .pointer (some ⟨b2, 0, none⟩)]) rfl cal_107 (fun F w hF hw => c107 (ws := [bS [115, 108, 111, 112, 101], x, y, u, v]) (i := 2) (a := b) (K.PtrL.pass hw (hF _ (K.m0)) (Below.refl _ _)) (K.PtrL.pass hw (hF _ (K.m1)) (Below.refl _ _)) (K.PtrL.pass hw (hF _ (K.m2)) (Below.refl _ _)) (K.Rd.lit hw (hF _ (K.m5)) (fun _ => rfl) (by decide) rfl) (K.Rd.own hw (hF _ (K.m3)) hq (fun _ => rfl) (by decide)) hq (Nat.le_of_ble_eq_true rfl) (Nat.le_of_ble_eq_true rfl) hpl hb h0)) (fun _ h => h) (by kernel_rfl) rfl ?_
    refine zN ?_
    refine K.d_two 7 14 (by kernel_rfl) ?_ ?_
    ·refine K.s_call 7 rfl (K.nA cal_109 (fun F w hF hw => c109 hu.1 hu.2)) (fun _ h => h) (by kernel_rfl) rfl ?_
     refine zN ?_
     refine K.d_two 11 14 (by kernel_rfl) ?_ ?_
     ·refine K.s_call 11 rfl (K.nA cal_109 (fun F w hF hw => c109 hv.1 hv.2)) (fun _ h => h) (by kernel_rfl) rfl ?_
      refine zN ?_
      refine dp 12 rfl (K.build (bl46y _ _)) ?_
      refine dp 13 rfl (K.build (bl58t _ _ _ _)) ?_
      refine K.d_new 14 rfl (K.alloc zr_58) (fun _ h => h) (by kernel_rfl) rfl ?_
      intro b8
      refine zN ?_
      refine K.eC 15 rfl (K.vA sz_58 rfl rfl rfl rfl (K.rp0)) rfl (by kernel_rfl) rfl ?_
      intro _ _
      refine zN ?_
      refine dd ?_
      exact K.sB (L' := K.blk b8 58 [.int .i64 4, .int .i64 (a : Int), .int .i64 (b : Int), .int .i64 l, .int .i64 h] :: K.blk b3 22 [.slice (some ⟨bk, 0, none⟩) 5 5] :: K.blk b2 127 [.pointer (some ⟨sb, 0, none⟩)] :: K.blk sb 25 [.int .i64 iv, .slice A pts.length c, .slice B nts.length d] :: K.row (.slice A pts.length c) 9 1 pts.length (pts.flatMap eG) :: K.row (.slice B nts.length d) 58 5 nts.length (nts.flatMap eO) :: K.blk bk 9 (([bS [115, 108, 111, 112, 101], x, y, u, v]).flatMap eG) :: T) [.pointer (some ⟨b8, 0, none⟩)] ⟨b8, rfl, rfl⟩ (fun w h => h) (by kernel_rfl)
     refine K.s_new 14 rfl (K.alloc zr_58) (fun _ h => h) (by kernel_rfl) rfl ?_
     intro b8
     refine zN ?_
     refine K.kB 11 rfl (K.nA cal_109 (fun F w hF hw => c109 hv.1 hv.2)) (fun _ h => K.tl h) (by kernel_rfl) rfl ?_
     refine zN ?_
     refine dp 12 rfl (K.build (bl46y _ _)) ?_
     refine dp 13 rfl (K.build (bl58t _ _ _ _)) ?_
     refine K.eC 15 rfl (K.vA sz_58 rfl rfl rfl rfl (K.rp0)) rfl (by kernel_rfl) rfl ?_
     intro _ _
     refine zN ?_
     refine dd ?_
     exact K.sB (L' := K.blk b8 58 [.int .i64 4, .int .i64 (a : Int), .int .i64 (b : Int), .int .i64 l, .int .i64 h] :: K.blk b3 22 [.slice (some ⟨bk, 0, none⟩) 5 5] :: K.blk b2 127 [.pointer (some ⟨sb, 0, none⟩)] :: K.blk sb 25 [.int .i64 iv, .slice A pts.length c, .slice B nts.length d] :: K.row (.slice A pts.length c) 9 1 pts.length (pts.flatMap eG) :: K.row (.slice B nts.length d) 58 5 nts.length (nts.flatMap eO) :: K.blk bk 9 (([bS [115, 108, 111, 112, 101], x, y, u, v]).flatMap eG) :: T) [.pointer (some ⟨b8, 0, none⟩)] ⟨b8, rfl, rfl⟩ (fun w h => h) (by kernel_rfl)
    refine K.s_new 14 rfl (K.alloc zr_58) (fun _ h => h) (by kernel_rfl) rfl ?_
    intro b8
    refine zN ?_
    refine K.kB 7 rfl (K.nA cal_109 (fun F w hF hw => c109 hu.1 hu.2)) (fun _ h => K.tl h) (by kernel_rfl) rfl ?_
    refine zN ?_
    refine K.kB 11 rfl (K.nA cal_109 (fun F w hF hw => c109 hv.1 hv.2)) (fun _ h => K.tl h) (by kernel_rfl) rfl ?_
    refine zN ?_
    refine dp 12 rfl (K.build (bl46y _ _)) ?_
    refine dp 13 rfl (K.build (bl58t _ _ _ _)) ?_
    refine K.eC 15 rfl (K.vA sz_58 rfl rfl rfl rfl (K.rp0)) rfl (by kernel_rfl) rfl ?_
    intro _ _
    refine zN ?_
    refine dd ?_
    exact K.sB (L' := K.blk b8 58 [.int .i64 4, .int .i64 (a : Int), .int .i64 (b : Int), .int .i64 l, .int .i64 h] :: K.blk b3 22 [.slice (some ⟨bk, 0, none⟩) 5 5] :: K.blk b2 127 [.pointer (some ⟨sb, 0, none⟩)] :: K.blk sb 25 [.int .i64 iv, .slice A pts.length c, .slice B nts.length d] :: K.row (.slice A pts.length c) 9 1 pts.length (pts.flatMap eG) :: K.row (.slice B nts.length d) 58 5 nts.length (nts.flatMap eO) :: K.blk bk 9 (([bS [115, 108, 111, 112, 101], x, y, u, v]).flatMap eG) :: T) [.pointer (some ⟨b8, 0, none⟩)] ⟨b8, rfl, rfl⟩ (fun w h => h) (by kernel_rfl)
   refine K.s_new 14 rfl (K.alloc zr_58) (fun _ h => h) (by kernel_rfl) rfl ?_
   intro b8
   refine zN ?_
   refine K.kB 3 rfl (K.callv_g (first := []) (cap := [.pointer (some ⟨b3, 0, none⟩), .pointer (some ⟨b2, 0, none⟩)]) rfl cal_107 (fun F w hF hw => c107 (ws := [bS [115, 108, 111, 112, 101], x, y, u, v]) (i := 2) (a := b) (K.PtrL.pass hw (hF _ (K.m1)) (Below.refl _ _)) (K.PtrL.pass hw (hF _ (K.m2)) (Below.refl _ _)) (K.PtrL.pass hw (hF _ (K.m3)) (Below.refl _ _)) (K.Rd.lit hw (hF _ (K.m6)) (fun _ => rfl) (by decide) rfl) (K.Rd.own hw (hF _ (K.m4)) hq (fun _ => rfl) (by decide)) hq (Nat.le_of_ble_eq_true rfl) (Nat.le_of_ble_eq_true rfl) hpl hb h0)) (fun _ h => K.tl h) (by kernel_rfl) rfl ?_
   refine zN ?_
   refine K.kB 7 rfl (K.nA cal_109 (fun F w hF hw => c109 hu.1 hu.2)) (fun _ h => K.tl h) (by kernel_rfl) rfl ?_
   refine zN ?_
   refine K.kB 11 rfl (K.nA cal_109 (fun F w hF hw => c109 hv.1 hv.2)) (fun _ h => K.tl h) (by kernel_rfl) rfl ?_
   refine zN ?_
   refine dp 12 rfl (K.build (bl46y _ _)) ?_
   refine dp 13 rfl (K.build (bl58t _ _ _ _)) ?_
   refine K.eC 15 rfl (K.vA sz_58 rfl rfl rfl rfl (K.rp0)) rfl (by kernel_rfl) rfl ?_
   intro _ _
   refine zN ?_
   refine dd ?_
   exact K.sB (L' := K.blk b8 58 [.int .i64 4, .int .i64 (a : Int), .int .i64 (b : Int), .int .i64 l, .int .i64 h] :: K.blk b3 22 [.slice (some ⟨bk, 0, none⟩) 5 5] :: K.blk b2 127 [.pointer (some ⟨sb, 0, none⟩)] :: K.blk sb 25 [.int .i64 iv, .slice A pts.length c, .slice B nts.length d] :: K.row (.slice A pts.length c) 9 1 pts.length (pts.flatMap eG) :: K.row (.slice B nts.length d) 58 5 nts.length (nts.flatMap eO) :: K.blk bk 9 (([bS [115, 108, 111, 112, 101], x, y, u, v]).flatMap eG) :: T) [.pointer (some ⟨b8, 0, none⟩)] ⟨b8, rfl, rfl⟩ (fun w h => h) (by kernel_rfl)
  refine K.s_new 14 rfl (K.alloc zr_58) (fun _ h => h) (by kernel_rfl) rfl ?_
  intro b8
  refine zN ?_
  refine K.kB 1 rfl (K.callv_g (first := []) (cap := [.pointer (some ⟨b3, 0, none⟩), .pointer (some ⟨b2, 0, none⟩)]) rfl cal_107 (fun F w hF hw => c107 (ws := [bS [115, 108, 111, 112, 101], x, y, u, v]) (i := 1) (a := a) (K.PtrL.pass hw (hF _ (K.m1)) (Below.refl _ _)) (K.PtrL.pass hw (hF _ (K.m2)) (Below.refl _ _)) (K.PtrL.pass hw (hF _ (K.m3)) (Below.refl _ _)) (K.Rd.lit hw (hF _ (K.m6)) (fun _ => rfl) (by decide) rfl) (K.Rd.own hw (hF _ (K.m4)) hq (fun _ => rfl) (by decide)) hq (Nat.le_of_ble_eq_true rfl) (Nat.le_of_ble_eq_true rfl) hpl ha h0)) (fun _ h => K.tl h) (by kernel_rfl) rfl ?_
  refine zN ?_
  refine K.kB 3 rfl (K.callv_g (first := []) (cap := [.pointer (some ⟨b3, 0, none⟩), .pointer (some ⟨b2, 0, none⟩)]) rfl cal_107 (fun F w hF hw => c107 (ws := [bS [115, 108, 111, 112, 101], x, y, u, v]) (i := 2) (a := b) (K.PtrL.pass hw (hF _ (K.m1)) (Below.refl _ _)) (K.PtrL.pass hw (hF _ (K.m2)) (Below.refl _ _)) (K.PtrL.pass hw (hF _ (K.m3)) (Below.refl _ _)) (K.Rd.lit hw (hF _ (K.m6)) (fun _ => rfl) (by decide) rfl) (K.Rd.own hw (hF _ (K.m4)) hq (fun _ => rfl) (by decide)) hq (Nat.le_of_ble_eq_true rfl) (Nat.le_of_ble_eq_true rfl) hpl hb h0)) (fun _ h => K.tl h) (by kernel_rfl) rfl ?_
  refine zN ?_
  refine K.kB 7 rfl (K.nA cal_109 (fun F w hF hw => c109 hu.1 hu.2)) (fun _ h => K.tl h) (by kernel_rfl) rfl ?_
  refine zN ?_
  refine K.kB 11 rfl (K.nA cal_109 (fun F w hF hw => c109 hv.1 hv.2)) (fun _ h => K.tl h) (by kernel_rfl) rfl ?_
  refine zN ?_
  refine dp 12 rfl (K.build (bl46y _ _)) ?_
  refine dp 13 rfl (K.build (bl58t _ _ _ _)) ?_
  refine K.eC 15 rfl (K.vA sz_58 rfl rfl rfl rfl (K.rp0)) rfl (by kernel_rfl) rfl ?_
  intro _ _
  refine zN ?_
  refine dd ?_
  exact K.sB (L' := K.blk b8 58 [.int .i64 4, .int .i64 (a : Int), .int .i64 (b : Int), .int .i64 l, .int .i64 h] :: K.blk b3 22 [.slice (some ⟨bk, 0, none⟩) 5 5] :: K.blk b2 127 [.pointer (some ⟨sb, 0, none⟩)] :: K.blk sb 25 [.int .i64 iv, .slice A pts.length c, .slice B nts.length d] :: K.row (.slice A pts.length c) 9 1 pts.length (pts.flatMap eG) :: K.row (.slice B nts.length d) 58 5 nts.length (nts.flatMap eO) :: K.blk bk 9 (([bS [115, 108, 111, 112, 101], x, y, u, v]).flatMap eG) :: T) [.pointer (some ⟨b8, 0, none⟩)] ⟨b8, rfl, rfl⟩ (fun w h => h) (by kernel_rfl)
 intro vi vr L hJ
 obtain ⟨b8, rfl, rfl⟩ := hJ
 refine zY ?_
 refine K.dA ?_
 refine K.permH (L' := _ :: _ :: _ :: _ :: _ :: _ :: _ :: _) (List.Perm.trans (List.perm_middle (l₁ := [_, _, _, _, _])) (List.Perm.cons _ Kq.p0)) ?_
 refine K.draw_drop 1 [10] uA ?_
 refine K.aC 0 rfl (K.fA one_127 rfl (K.m2) rfl) (fun _ h => K.tl h) (by kernel_rfl) (by kernel_rfl) rfl ?_
 refine zN ?_
 refine K.aC 1 rfl (K.fA one_127 rfl (K.m2) rfl) (fun _ h => K.tl h) (by kernel_rfl) (by kernel_rfl) rfl ?_
 refine zN ?_
 refine dp 2 rfl (K.nilCheck rfl) ?_
 refine dp 3 rfl (K.aA fo_25_2 rfl) ?_
 refine K.aC 4 rfl (K.fA one_23 rfl (K.m3) rfl) (fun _ h => K.tl h) (by kernel_rfl) (by kernel_rfl) rfl ?_
 refine zN ?_
 refine K.aC 5 rfl (K.jA ag_58 rfl (K.m0) rfl) (fun _ h => K.tl h) (by kernel_rfl) (by kernel_rfl) rfl ?_
 refine zN ?_
 refine K.d_new 6 rfl (K.buildSlice (bs23 _ _ _ _ _)) (fun _ h => K.tl h) (by kernel_rfl) rfl ?_
 intro b127
 refine zN ?_
 refine K.sC 7 rfl (K.append el_23 rfl rfl (K.PtrL.own' (K.m0)) rfl rfl (by decide) (by omega) (by omega) (fun _ _ => K.rp1)) (fun _ => fun _ h => K.tl (K.tl h)) (by kernel_rfl) rfl ?_
 rintro ⟨g128, c128⟩ _
 refine zN ?_
 refine dp 8 rfl (K.nilCheck rfl) ?_
 refine dp 9 rfl (K.aA fo_25_2 rfl) ?_
 refine K.eC 10 rfl (K.store sz_23 rfl rfl rfl rfl (K.rp5)) rfl (by kernel_rfl) rfl ?_
 intro _ _
 refine zN ?_
 refine dd (K.kA ?_)
 refine K.end_normal (fun w _ => K.rB rfl w) ?_
 have e1 : (nts ++ [(⟨4, (a : Int), (b : Int), l, h⟩ : NtT)]).length = nts.length + 1 := by rw [List.length_append]; rfl
 refine K.weak (L' := _ :: _ :: _ :: _ :: _) ((Kq.s1 (Kq.sc (Kq.s1 (Kq.s1 (Kq.s1 Kq.s0)))))) ?_
 refine K.permH (L' := _ :: _ :: _ :: _ :: _) (Kq.pz ((Kq.pz (Kq.p0)))) ?_
 exact K.retsU ((A, c), (some ⟨g128, 0, none⟩, c128)) trivial rfl (by rw [e1, ← eO_snoc]; exact List.Sublist.refl _)

end Go.Proofs.YtnhhfkgldoeifaaGreatDoor.Sh
end
section
namespace Go.Proofs.YtnhhfkgldoeifaaGreatDoor.Sh
open Go.RowKit Go
open Go.K (setd setn ev nth over cl eI eP eT setM setF)
attribute [local irreducible] K.blk K.row

theorem c67 {s s' : StT} {ws : List ByteArray} {A B : Option Addr} {c d sb bk : Nat} {T : List K.Chunk} {w0 w : World} (h : Tk s ws s') (hst : K.St w0 (K.blk sb 25 [.int .i64 s.iv, .slice A s.pts.length c, .slice B s.nts.length d] :: K.row (.slice A s.pts.length c) 9 1 s.pts.length (s.pts.flatMap eG) :: K.row (.slice B s.nts.length d) 58 5 s.nts.length (s.nts.flatMap eO) :: K.blk bk 9 ((ws).flatMap eG) :: T) w) (hp : s.pts.length ≤ 1000) (hn : s.nts.length ≤ 1000) :
  Calls Tryz.prog 67 [.pointer (some ⟨sb, 0, none⟩), .slice (some ⟨bk, 0, none⟩) ws.length ws.length].toArray w (K.RetU (fun _ : (Option Addr × Nat) × (Option Addr × Nat) => True) (fun _ => .tuple #[]) w0 (fun z => K.blk sb 25 [.int .i64 s'.iv, .slice z.1.1 s'.pts.length z.1.2, .slice z.2.1 s'.nts.length z.2.2] :: K.row (.slice z.1.1 s'.pts.length z.1.2) 9 1 s'.pts.length (s'.pts.flatMap eG) :: K.row (.slice z.2.1 s'.nts.length z.2.2) 58 5 s'.nts.length (s'.nts.flatMap eO) :: K.blk bk 9 ((ws).flatMap eG) :: T)) := by
 cases h with
 | sheet x n hx => exact c67_sheet hst hx
 | point x => exact c67_point hst hp
 | lake x y a b h0 ha hb => exact c67_lake hst hn hp h0 ha hb
 | spot x u v a l h h0 ha hu hv => exact c67_spot hst hn hp h0 ha hu hv
 | contour x u v a l h h0 ha hu hv => exact c67_contour hst hn hp h0 ha hu hv
 | slope x y u v a b l h h0 ha hb hu hv => exact c67_slope hst hn hp h0 ha hb hu hv


set_option maxRecDepth 100000 in
set_option maxHeartbeats 4000000 in
theorem c30 {w : World} (hT : TabT w) :
  Calls Tryz.prog 30 [.string textS].toArray w (K.Ret (fun _ : (Option Addr × Nat) × (Option Addr × Nat) => True) (fun z => .tuple #[.agg #[.int .i64 100, .slice z.1.1 ptsS.length z.1.2, .slice z.2.1 ntsS.length z.2.2], .int .i64 0]) (fun z => [K.row (.slice z.1.1 ptsS.length z.1.2) 9 1 ptsS.length (ptsS.flatMap eG), K.row (.slice z.2.1 ntsS.length z.2.2) 58 5 ntsS.length (ntsS.flatMap eO)]) w) := by
 refine R.enter (args := [.string textS]) Tryz.func30 rfl (m := 32) rfl ?_
 refine zR ?_
 refine R.seq ?_
 refine R.gA rfl ?_
 refine qn (K.alloc zr_25) fun b2 => ?_
 refine qn (K.alloc zr_35) fun b3 => ?_
 refine K.lA ?_
 refine R.out ?_
 refine R.dA ?_
 refine R.seq ?_
 refine R.seq ?_
 refine R.gA rfl ?_
 refine qm ?_
 refine qp (K.len_s sT_9 rfl) ?_
 refine qp (K.Pure.eq (K.gtr rfl rfl) (show _ = Value.bool false from congrArg Value.bool (by kernel_rfl))) ?_
 refine K.lA ?_
 refine R.out ?_
 refine R.dA ?_
 refine R.oA rfl ?_
 refine R.skip ?_
 refine R.dA ?_
 refine R.seq ?_
 refine R.lregion ?_
 refine R.jB (K.mkFunc) rfl rfl ?_
 refine zN ?_
 refine R.lseq_defer (first := []) rfl rfl ?_
 refine R.lseq_nil ?_
 refine R.dA ?_
 refine R.seq ?_
 refine R.seq ?_
 refine R.gA rfl ?_
 refine (K.jC (e := 58) (size := 5)) ?_
 refine (K.jC (e := 9) (size := 1)) ?_
 refine qm ?_
 refine K.gB (K.lB cal_66 (fun F w hF hw => c66 w)) rfl ?_
 rintro q _
 refine zN ?_
 refine K.lA ?_
 refine R.out ?_
 refine R.dA ?_
 refine R.block ?_
 refine R.rangeX (gf := 105) (first := []) (cap := [.pointer (some ⟨q, 0, none⟩)]) (enc := (fun s : List UInt8 => [Value.string (bS s)])) (XS := LNS) (ps := [12]) rfl cal_105 [K.blk b2 25 [.int .i64 (stK 0).iv, .slice none (stK 0).pts.length 0, .slice none (stK 0).nts.length 0], K.row (.slice none (stK 0).pts.length 0) 9 1 (stK 0).pts.length ((stK 0).pts.flatMap eG), K.row (.slice none (stK 0).nts.length 0) 58 5 (stK 0).nts.length ((stK 0).nts.flatMap eO), K.blk b3 35 [.int .i64 0]] [] (K.st_perm (show List.Perm [K.blk q 9 [.string (bS (rst LNS 0))], K.row (.slice none (stK 0).pts.length 0) 9 1 (stK 0).pts.length ((stK 0).pts.flatMap eG), K.row (.slice none (stK 0).nts.length 0) 58 5 (stK 0).nts.length ((stK 0).nts.flatMap eO), K.blk b3 35 [.int .i64 0], K.blk b2 25 [.int .i64 (stK 0).iv, .slice none (stK 0).pts.length 0, .slice none (stK 0).nts.length 0]] ([K.blk b2 25 [.int .i64 (stK 0).iv, .slice none (stK 0).pts.length 0, .slice none (stK 0).nts.length 0], K.row (.slice none (stK 0).pts.length 0) 9 1 (stK 0).pts.length ((stK 0).pts.flatMap eG), K.row (.slice none (stK 0).nts.length 0) 58 5 (stK 0).nts.length ((stK 0).nts.flatMap eO), K.blk b3 35 [.int .i64 0]] ++ ([] ++ [K.blk q 9 [.string (bS (rst LNS 0))]])) from (List.Perm.trans (List.perm_middle (l₁ := [_, _, _, _])) (List.Perm.cons _ (Kq.pz ((Kq.pz ((Kq.pz (Kq.p0)))))))))) R.fixN (fun _ => rfl) (c105 lns_ok) (fun f w _ h => h) (fun k L => ∃ (A B : Option Addr) (c d : Nat), L = [K.blk b2 25 [.int .i64 (stK k).iv, .slice A (stK k).pts.length c, .slice B (stK k).nts.length d], K.row (.slice A (stK k).pts.length c) 9 1 (stK k).pts.length ((stK k).pts.flatMap eG), K.row (.slice B (stK k).nts.length d) 58 5 (stK k).nts.length ((stK k).nts.flatMap eO), K.blk b3 35 [.int .i64 0]]) (fun cX L => False) ?_ ?_ ?_ ?_
 ·exact ⟨none, none, 0, 0, rfl⟩
 ·intro k s L lr E hs hE hJ
  obtain ⟨A, B, c, d, rfl⟩ := hJ
  have hk : k < LNS.length := (List.getElem?_eq_some_iff.1 hs).1
  have hse : s = LNS.getD k default := by rw [List.getD_eq_getElem?_getD, hs]; rfl
  subst hse
  have hsb := st_b k
  have hws := wsl_all ⟨k, hk⟩
  have hls : (LNS.getD k default).length ≤ 1000 := (lns_all ⟨k, hk⟩).2.2
  try dsimp only [List.cons_append, List.nil_append]
  refine zY ?_
  refine R.gA rfl ?_
  refine qa ?_
  refine K.lA ?_
  refine R.out ?_
  refine R.dA ?_
  refine R.bodyC' rfl (fun E hE => ?_)
  dsimp only [List.dropLast, List.cons_append, List.nil_append]
  refine zN ?_
  refine R.block ?_
  refine R.gA rfl ?_
  refine qm ?_
  refine qc (K.nA cal_69 (fun F w hF hw => c69 (by show (LNS.getD k default).toArray.size ≤ _; rw [List.size_toArray]; omega))) ?_
  refine K.gB (K.lB cal_68 (fun F w hF hw => c68 hws)) rfl ?_
  rintro b15 _
  refine zN ?_
  refine K.permH (L' := [_, _, _, _, _, _]) (Kq.pz ((Kq.pz ((Kq.pz (Kq.p0)))))) ?_
  refine K.xB (K.callU_f cal_67 (fun w hw => c67 (tk_all k hk) hw (by omega) (by omega))) rfl ?_
  rintro ⟨⟨A2, c2⟩, B2, d2⟩ _
  refine zN ?_
  refine K.lA ?_
  refine R.out ?_
  refine R.kA ?_
  refine K.permH (L' := [_, _, _, _, _, _]) (List.Perm.cons _ (List.Perm.cons _ (List.Perm.cons _ (Kq.pz (Kq.p0))))) ?_
  exact R.rp_normal (L := [K.blk b2 25 [.int .i64 (stK (k + 1)).iv, .slice A2 (stK (k + 1)).pts.length c2, .slice B2 (stK (k + 1)).nts.length d2], K.row (.slice A2 (stK (k + 1)).pts.length c2) 9 1 (stK (k + 1)).pts.length ((stK (k + 1)).pts.flatMap eG), K.row (.slice B2 (stK (k + 1)).nts.length d2) 58 5 (stK (k + 1)).nts.length ((stK (k + 1)).nts.flatMap eO), K.blk b3 35 [.int .i64 0]]) ⟨A2, B2, c2, d2, rfl⟩ (Kq.sc (Kq.sc (Kq.sc (Kq.sc (Kq.s1 Kq.s0)))))
 ·intro bD L hJ
  obtain ⟨A, B, c, d, rfl⟩ := hJ
  rw [st_end]
  dsimp only
  try dsimp only [List.cons_append, List.nil_append]
  refine zY ?_
  refine R.kA ?_
  refine R.dA ?_
  refine R.seq ?_
  refine K.iC (A := A) K.m1 (fun hq => ?_)
  refine K.iC (A := B) K.m2 (fun hq2 => ?_)
  refine R.gA rfl ?_
  refine ql (K.jA ag_25 rfl (K.m0) rfl) ?_
  refine qc (K.nA cal_58 (fun F w hF hw => c58 (K.Rd.own hw (hF _ (K.m1)) hq (fun _ => rfl) (by decide)) (K.Rd.own hw (hF _ (K.m2)) hq2 (fun _ => rfl) (by decide)) good_S)) ?_
  refine qm ?_
  iterate 3 refine qx ?_
  refine qt (K.store sz_35 rfl rfl rfl rfl (K.rp3)) ?_
  refine K.lA ?_
  refine R.out ?_
  refine R.dA ?_
  refine R.seq ?_
  refine R.gA rfl ?_
  refine ql (K.fA one_35 rfl (K.m3) rfl) ?_
  refine qp (K.Pure.eq (K.eql rfl rfl) (show _ = Value.bool true from rfl)) ?_
  refine qm ?_
  refine ql (K.jA ag_25 rfl (K.m0) rfl) ?_
  refine qc (K.nA cal_64 (fun F w hF hw => c64 (K.Rd.own hw (hF _ (K.m1)) hq (fun _ => rfl) (by decide)) (K.Rd.own hw (hF _ (K.m2)) hq2 (fun _ => rfl) (by decide)) good_S (hT.pass hw) (by have h := congrArg ByteArray.size tx_S; rw [bS_size] at h; rw [h]; exact Nat.le_of_ble_eq_true (by kernel_rfl)))) ?_
  refine qm ?_
  refine qp (K.Pure.eq (K.rC rfl rfl) (show _ = Value.bool true from congrArg Value.bool (by rw [tx_S]; kernel_rfl))) ?_
  refine qp (K.sA rfl) ?_
  refine qc (K.nA cal_70 (fun F w hF hw => c70 w)) ?_
  refine K.lA ?_
  refine R.out ?_
  refine R.dA ?_
  refine R.seq ?_
  refine R.gA rfl ?_
  refine ql (K.jA ag_25 rfl (K.m0) rfl) ?_
  refine qt (K.vA sz_25 rfl rfl rfl rfl (K.rp0)) ?_
  refine qt (K.store sz_35 rfl rfl rfl rfl (K.rp3)) ?_
  refine K.lA ?_
  refine R.out ?_
  refine R.dA ?_
  refine R.ret ?_
  refine R.end_retR rfl rfl (fun w => inv65 _ _ w) (fun w => d65 _ _ w) (by dsimp only [List.dropLast]; exact (fun w hw => K.res_cc rfl rfl rfl (K.run_cellA ag_25 rfl (K.m0) rfl w hw) (K.tB one_35 rfl (K.m3) w hw))) ?_
  dsimp only [List.dropLast]
  exact K.rets ((A, c), (B, d)) trivial rfl (Kq.s1 (Kq.sc (Kq.sc (List.nil_sublist _))))
 ·intro bD cX L hJ
  
  exact hJ.elim

end Go.Proofs.YtnhhfkgldoeifaaGreatDoor.Sh
end
section
namespace Go.Proofs.YtnhhfkgldoeifaaGreatDoor.Sh
open Go.RowKit Go
open Go.K (setd setn ev nth over cl eI eP eT setM setF)
attribute [local irreducible] K.blk K.row
theorem len_S : ntsS.length = 4 := rfl
theorem len_T : ntsT.length = 5 := rfl
theorem len_B : ntsB.length = 5 := rfl
theorem len_P : ptsS.length = 4 := rfl
theorem fit_S : (allB 100 ntsS 0 ntsS.length).2 = true := by rw [len_S]; exact ex_fit.1
theorem fit_B : (allB 100 ntsB 0 ntsB.length).2 = false := by rw [len_B]; exact ex_fit.2.1
theorem fit_T : (allB 100 ntsT 0 ntsT.length).2 = true := by rw [len_T]; exact ex_fit.2.2
theorem hgt_T : hgtL (allB 100 ntsT 0 ntsT.length).1 ptsS.length = [(1180, 1200), (900, 940), (910, 950), (900, 940)] := by rw [len_T, len_P]; exact ex_hgt
theorem ap_T1 : -(bat (allB 100 ntsT 0 ntsT.length).1 2 1) = 10 := by rw [len_T]; exact ex_apart.1
theorem ap_T2 : bat (allB 100 ntsT 0 ntsT.length).1 1 2 = 40 := by rw [len_T]; exact ex_apart.2
theorem ap_e : apE 10 40 = 2 := by decide
theorem nm_y : Pn.nameB ⟨#[97, 45, 57]⟩ = true := by decide +kernel
theorem nm_n : Pn.nameB ⟨#[57, 97]⟩ = false := by decide +kernel
theorem tx_b : (txS 100 ptsS ntsS).length ≤ 1000000 := by have h := congrArg ByteArray.size tx_S; rw [bS_size] at h; rw [h]; exact Nat.le_of_ble_eq_true (by kernel_rfl)
theorem bs41e : K.Bs Tryz.prog 41 4 [(0, .agg #[.int .i64 1180, .int .i64 1200]), (1, .agg #[.int .i64 900, .int .i64 940]), (2, .agg #[.int .i64 910, .int .i64 950]), (3, .agg #[.int .i64 900, .int .i64 940])] 46 (([(1180, 1200), (900, 940), (910, 950), (900, 940)] : List (Int × Int)).flatMap K.eP) := fun w => by kernel_rfl
theorem bsi1 : K.Bs Tryz.prog 26 1 [(0, .int .i64 0)] 3 (([0] : List Int).flatMap K.eI) := fun w => by kernel_rfl
theorem bsi3 : K.Bs Tryz.prog 26 3 [(0, .int .i64 0), (1, .int .i64 1), (2, .int .i64 4)] 3 (([0, 1, 4] : List Int).flatMap K.eI) := fun w => by kernel_rfl
def zT : NtT := ⟨4, 1, 2, -40, -10⟩
def zB : NtT := ⟨4, 1, 0, 0, 10⟩
theorem hi_S : hiL (allB 100 ntsS 0 ntsS.length).1 ptsS.length ptsS.length = [0] := by decide +kernel
theorem key_S : ∀ x ∈ ntsS, ∃ la, Tryz.prog.keyLits 5 58 (eO x) = some la := fun x hx => Option.isSome_iff_exists.1 (List.all_eq_true.1 (show ntsS.all (fun x => (Tryz.prog.keyLits 5 58 (eO x)).isSome) = true by kernel_rfl) x hx)
theorem c20S (w : World) : Calls Tryz.prog 20 [.slice none 0 0].toArray w (K.Ret (fun _ : Nat × Option Addr × Nat => True) (fun r => .agg #[.int .i64 100, .slice (some ⟨r.1, 0, none⟩) ptsS.length 4, .slice r.2.1 ntsS.length r.2.2]) (fun r => [K.row (.slice r.2.1 ntsS.length r.2.2) 58 5 ntsS.length (ntsS.flatMap eO), K.blk r.1 9 (ptsS.flatMap eG)]) w) := by
 have hg := c20 (Z := none) (cz := 0) (zs := []) (w := w) K.Rd.nil (Nat.zero_le _)
 simp only [List.length_nil, Nat.add_zero, List.flatMap_nil, List.append_nil] at hg
 exact hg
theorem c20T {w0 w : World} {F : List K.Chunk} {b : Nat} (hw : K.St w0 F w) (hm : K.blk b 58 (eO zT) ∈ F) : Calls Tryz.prog 20 [.slice (some ⟨b, 0, none⟩) 1 1].toArray w (K.Ret (fun _ : Nat × Option Addr × Nat => True) (fun r => .agg #[.int .i64 100, .slice (some ⟨r.1, 0, none⟩) ptsS.length 4, .slice r.2.1 ntsT.length r.2.2]) (fun r => [K.row (.slice r.2.1 ntsT.length r.2.2) 58 5 ntsT.length (ntsT.flatMap eO), K.blk r.1 9 (ptsS.flatMap eG)]) w) := by
 have hR : K.Rd w (some ⟨b, 0, none⟩) 5 eO [zT] := K.Rd.lit hw hm (fun _ => rfl) (by decide) (by rw [List.flatMap_cons, List.flatMap_nil, List.append_nil])
 have hg := c20 (cz := 1) hR (Nat.le_refl 1)
 rw [← List.flatMap_append] at hg
 exact hg
theorem c20B {w0 w : World} {F : List K.Chunk} {b : Nat} (hw : K.St w0 F w) (hm : K.blk b 58 (eO zB) ∈ F) : Calls Tryz.prog 20 [.slice (some ⟨b, 0, none⟩) 1 1].toArray w (K.Ret (fun _ : Nat × Option Addr × Nat => True) (fun r => .agg #[.int .i64 100, .slice (some ⟨r.1, 0, none⟩) ptsS.length 4, .slice r.2.1 ntsB.length r.2.2]) (fun r => [K.row (.slice r.2.1 ntsB.length r.2.2) 58 5 ntsB.length (ntsB.flatMap eO), K.blk r.1 9 (ptsS.flatMap eG)]) w) := by
 have hR : K.Rd w (some ⟨b, 0, none⟩) 5 eO [zB] := K.Rd.lit hw hm (fun _ => rfl) (by decide) (by rw [List.flatMap_cons, List.flatMap_nil, List.append_nil])
 have hg := c20 (cz := 1) hR (Nat.le_refl 1)
 rw [← List.flatMap_append] at hg
 exact hg

set_option maxRecDepth 100000 in
set_option maxHeartbeats 8000000 in
theorem c6 {w : World} (hT : TabT w) :
  Calls Tryz.prog 6 [].toArray w (K.Gives (.bool true) w) := by
 refine K.enter (args := []) Tryz.func6 rfl (n := 202) rfl ?_
 refine zR ?_
 refine sr (qa ?_)
 refine sn (sr (K.gB (K.lB cal_20 (fun F w hF hw => c20S w)) rfl ?_))
 rintro ⟨a1, Q1, q1⟩ _
 refine zN ?_
 refine K.gB (K.lB cal_21 (fun F w hF hw => c21 w)) rfl ?_
 rintro g21 _
 refine zN ?_
 refine K.gB (K.lB cal_20 (fun F w hF hw => c20T hw (hF _ (K.m0)))) rfl ?_
 rintro ⟨a2, Q2, q2⟩ _
 refine zN ?_
 refine K.gB (K.lB cal_22 (fun F w hF hw => c22 w)) rfl ?_
 rintro g22 _
 refine zN ?_
 refine K.gB (K.lB cal_20 (fun F w hF hw => c20B hw (hF _ (K.m0)))) rfl ?_
 rintro ⟨a3, Q3, q3⟩ _
 refine zN ?_
 refine qn (K.alloc zr_25) fun b1 => ?_
 refine qn (K.alloc zr_25) fun b2 => ?_
 refine qn (K.alloc zr_25) fun b3 => ?_
 refine qt (K.vA sz_25 rfl rfl rfl rfl (K.rp2)) ?_
 refine qt (K.vA sz_25 rfl rfl rfl rfl (K.rp1)) ?_
 refine qt (K.vA sz_25 rfl rfl rfl rfl (K.rp0)) ?_
 refine sn (K.seq ?_)
 refine K.iC (A := Q3) K.m3 (fun hqB => ?_)
 refine K.iC (A := Q2) K.m6 (fun hqT => ?_)
 refine K.iC (A := Q1) K.m9 (fun hqS => ?_)
 refine K.gA (ql (K.jA ag_25 rfl (K.m2) rfl) ?_)
 refine qc (K.nA cal_23 (fun F w hF hw => c23y (K.Rd.lit hw (hF _ (K.m10)) (fun _ => rfl) (by decide) rfl) (K.Rd.own hw (hF _ (K.m9)) hqS (fun _ => rfl) (by decide)) good_S fit_S)) ?_
 refine qm ?_
 iterate 2 refine qx ?_
 iterate 2 refine qa ?_
 refine sn (sr (ql (K.jA ag_25 rfl (K.m0) rfl) ?_))
 refine qc (K.nA cal_23 (fun F w hF hw => c23n (K.Rd.lit hw (hF _ (K.m4)) (fun _ => rfl) (by decide) rfl) (K.Rd.own hw (hF _ (K.m3)) hqB (fun _ => rfl) (by decide)) good_B fit_B)) ?_
 refine qm ?_
 iterate 2 refine qx ?_
 iterate 2 refine qa ?_
 refine sn (sr (ql (K.jA ag_25 rfl (K.m1) rfl) ?_))
 refine K.gB (K.lB cal_9 (fun F w hF hw => (by have hg := c9y (c := 4) (d := q2) (K.Rd.lit hw (hF _ (K.m7)) (fun _ => rfl) (by decide) rfl) (K.Rd.own hw (hF _ (K.m6)) hqT (fun _ => rfl) (by decide)) good_T fit_T; rw [hgt_T] at hg; exact hg))) rfl ?_
 rintro ⟨QH, qH⟩ hqH
 refine zN ?_
 refine qm ?_
 iterate 2 refine qx ?_
 iterate 2 refine qa ?_
 refine sn (sr (ql (K.jA ag_25 rfl (K.m2) rfl) ?_))
 refine qc (K.nA cal_24 (fun F w hF hw => (by have hg := c24 (c := 4) (d := q2) (i := 2) (k := 1) (K.Rd.lit hw (hF _ (K.m8)) (fun _ => rfl) (by decide) rfl) (K.Rd.own hw (hF _ (K.m7)) hqT (fun _ => rfl) (by decide)) good_T fit_T (by decide) (by decide); rw [ap_T1, ap_T2, ap_e] at hg; exact hg))) ?_
 refine qm ?_
 iterate 3 refine qx ?_
 refine qn (K.alloc zr_46) fun b10 => ?_
 refine qt (K.vA sz_46 rfl rfl rfl rfl (K.rp0)) ?_
 iterate 2 refine qa ?_
 refine sn (sr (ql (K.jA ag_25 rfl (K.m4) rfl) ?_))
 refine K.gB (K.lB cal_25 (fun F w hF hw => (by have hg := c25 (c := 4) (d := q1) (K.Rd.lit hw (hF _ (K.m12)) (fun _ => rfl) (by decide) rfl) (K.Rd.own hw (hF _ (K.m11)) hqS (fun _ => rfl) (by decide)) good_S fit_S; rw [hi_S] at hg; exact hg))) rfl ?_
 rintro ⟨QI, qI⟩ hqI
 refine zN ?_
 refine qm ?_
 iterate 2 refine qx ?_
 iterate 2 refine qa ?_
 refine sn (sr (ql (K.jA ag_25 rfl (K.m3) rfl) ?_))
 refine K.gB (K.lB cal_26 (fun F w hF hw => (by have hg := c26n (c := 4) (d := q3) (K.Rd.lit hw (hF _ (K.m7)) (fun _ => rfl) (by decide) rfl) (K.Rd.own hw (hF _ (K.m6)) hqB (fun _ => rfl) (by decide)) good_B fit_B; rw [ex_proof] at hg; exact hg))) rfl ?_
 rintro ⟨QF, qF⟩ hqF
 refine zN ?_
 refine qm ?_
 iterate 2 refine qx ?_
 iterate 2 refine qa ?_
 refine sn (sr (ql (K.jA ag_25 rfl (K.m4) rfl) ?_))
 refine K.gB (K.lB cal_27 (fun F w hF hw => (by have hg := c27 (c := 4) (d := q3) (K.Rd.lit hw (hF _ (K.m8)) (fun _ => rfl) (by decide) rfl) (K.Rd.own hw (hF _ (K.m7)) hqB (fun _ => rfl) (by decide)) good_B; rw [ex_wrong] at hg; exact hg))) rfl ?_
 rintro ⟨QW, qW⟩ hqW
 refine zN ?_
 refine qm ?_
 iterate 2 refine qx ?_
 iterate 2 refine qa ?_
 refine sn (sr (ql (K.jA ag_25 rfl (K.m5) rfl) ?_))
 refine qc (K.nA cal_28 (fun F w hF hw => (by have hg := c28 (c := 4) (d := q3) (K.Rd.lit hw (hF _ (K.m9)) (fun _ => rfl) (by decide) rfl) (K.Rd.own hw (hF _ (K.m8)) hqB (fun _ => rfl) (by decide)) good_B; rw [ex_wide] at hg; exact hg))) ?_
 refine qm ?_
 iterate 2 refine qx ?_
 iterate 2 refine qa ?_
 refine sn (sr (ql (K.jA ag_25 rfl (K.m7) rfl) ?_))
 refine qc (K.nA cal_29 (fun F w hF hw => (by have hg := c29 (c := 4) (d := q1) (K.Rd.lit hw (hF _ (K.m15)) (fun _ => rfl) (by decide) rfl) (K.Rd.own hw (hF _ (K.m14)) hqS (fun _ => rfl) (by decide)) good_S (hT.pass hw) tx_b; rw [tx_S] at hg; exact hg))) ?_
 refine qm ?_
 iterate 2 refine qx ?_
 iterate 2 refine qa ?_
 refine sn (sr (qc (K.nA cal_31 (fun F w hF hw => c31 w)) ?_))
 refine K.gB (K.lB cal_30 (fun F w hF hw => c30 (hT.pass hw))) rfl ?_
 rintro ⟨⟨QP, qP⟩, QN, qN⟩ _
 refine zN ?_
 refine qm ?_
 iterate 2 refine qx ?_
 refine qn (K.alloc zr_25) fun b23 => ?_
 refine qt (K.vA sz_25 rfl rfl rfl rfl (K.rp0)) ?_
 refine qa ?_
 refine sn (sr (ql (K.jA ag_25 rfl (K.m8) rfl) ?_))
 refine qc (K.nA cal_9 (fun F w hF hw => c9n (K.Rd.lit hw (hF _ (K.m12)) (fun _ => rfl) (by decide) rfl) (K.Rd.own hw (hF _ (K.m11)) hqB (fun _ => rfl) (by decide)) good_B fit_B)) ?_
 refine qm ?_
 iterate 2 refine qx ?_
 iterate 2 refine qa ?_
 refine sn (sr (ql (K.jA ag_25 rfl (K.m10) rfl) ?_))
 refine K.gB (K.lB cal_26 (fun F w hF hw => c26y (K.Rd.lit hw (hF _ (K.m18)) (fun _ => rfl) (by decide) rfl) (K.Rd.own hw (hF _ (K.m17)) hqS (fun _ => rfl) (by decide)) good_S fit_S)) rfl ?_
 rintro ⟨QE, qE⟩ _
 refine zN ?_
 refine qm ?_
 iterate 2 refine qx ?_
 iterate 2 refine qa ?_
 refine sn (K.seq ?_)
 refine K.iC (A := QP) K.m2 (fun hqP => ?_)
 refine K.iC (A := QN) K.m3 (fun hqN => ?_)
 refine K.weak (Kq.s1 (Kq.sc (Kq.sc (Kq.sc (Kq.sc (Kq.sc (Kq.sc (Kq.sc (Kq.sc (Kq.s1 (Kq.s1 (Kq.sc (Kq.s1 (Kq.s1 (Kq.s1 (Kq.s1 (Kq.s1 (Kq.s1 (Kq.sc (Kq.sc (List.Sublist.slnil))))))))))))))))))))) ?_
 refine K.nB [] uA ?_
 refine dP 0 rfl (K.move) ?_
 refine dP 1 rfl (K.Pure.eq (K.eql rfl rfl) (show _ = Value.bool true from rfl)) ?_
 refine dP 2 rfl (K.move) ?_
 refine dP 3 rfl (K.move) ?_
 refine dP 4 rfl (K.Pure.eq (K.eql rfl rfl) (show _ = Value.bool true from rfl)) ?_
 refine K.d_norm (List.replicate 5 true ++ List.replicate 103 false).toArray (by as_aux_lemma => kernel_rfl) ?_
 refine dP 5 rfl (K.sA rfl) ?_
 refine dP 6 rfl (K.move) ?_
 refine dP 7 rfl (K.move) ?_
 refine dP 8 rfl (K.Pure.eq (K.eql rfl rfl) (show _ = Value.bool true from rfl)) ?_
 refine dP 9 rfl (K.sA rfl) ?_
 refine K.d_norm (List.replicate 10 true ++ List.replicate 98 false).toArray (by as_aux_lemma => kernel_rfl) ?_
 refine dP 10 rfl (K.move) ?_
 refine dP 11 rfl (K.move) ?_
 refine dP 12 rfl (K.Pure.eq (K.eql rfl rfl) (show _ = Value.bool true from rfl)) ?_
 refine dP 13 rfl (K.sA rfl) ?_
 refine dP 14 rfl (K.move) ?_
 refine K.d_norm (List.replicate 15 true ++ List.replicate 93 false).toArray (by as_aux_lemma => kernel_rfl) ?_
 refine dP 15 rfl (K.move) ?_
 refine dP 16 rfl (K.Pure.eq (K.eql rfl rfl) (show _ = Value.bool true from rfl)) ?_
 refine dP 17 rfl (K.sA rfl) ?_
 refine dP 18 rfl (K.move) ?_
 refine dP 19 rfl (K.move) ?_
 refine K.d_norm (List.replicate 20 true ++ List.replicate 88 false).toArray (by as_aux_lemma => kernel_rfl) ?_
 refine dP 20 rfl (K.Pure.eq (K.eql rfl rfl) (show _ = Value.bool true from rfl)) ?_
 refine dP 21 rfl (K.sA rfl) ?_
 refine dP 22 rfl (K.move) ?_
 refine dP 23 rfl (K.move) ?_
 refine dP 24 rfl (K.Pure.eq (K.eql rfl rfl) (show _ = Value.bool true from rfl)) ?_
 refine K.d_norm (List.replicate 25 true ++ List.replicate 83 false).toArray (by as_aux_lemma => kernel_rfl) ?_
 refine dP 25 rfl (K.sA rfl) ?_
 refine dP 26 rfl (K.move) ?_
 refine dP 27 rfl (K.move) ?_
 refine dP 28 rfl (K.Pure.eq (K.eql rfl rfl) (show _ = Value.bool true from rfl)) ?_
 refine dP 29 rfl (K.sA rfl) ?_
 refine K.d_norm (List.replicate 30 true ++ List.replicate 78 false).toArray (by as_aux_lemma => kernel_rfl) ?_
 refine dP 30 rfl (K.move) ?_
 refine dP 31 rfl (K.move) ?_
 refine dP 32 rfl (K.Pure.eq (K.eql rfl rfl) (show _ = Value.bool true from rfl)) ?_
 refine dP 33 rfl (K.sA rfl) ?_
 refine dP 34 rfl (K.move) ?_
 refine K.d_norm (List.replicate 35 true ++ List.replicate 73 false).toArray (by as_aux_lemma => kernel_rfl) ?_
 refine dP 35 rfl (K.move) ?_
 refine dP 36 rfl (K.Pure.eq (K.eql rfl rfl) (show _ = Value.bool true from rfl)) ?_
 refine dP 37 rfl (K.sA rfl) ?_
 refine dP 38 rfl (K.move) ?_
 refine dP 39 rfl (K.move) ?_
 refine K.d_norm (List.replicate 40 true ++ List.replicate 68 false).toArray (by as_aux_lemma => kernel_rfl) ?_
 refine dP 40 rfl (K.Pure.eq (K.eql rfl rfl) (show _ = Value.bool true from rfl)) ?_
 refine dP 41 rfl (K.sA rfl) ?_
 refine dP 42 rfl (K.move) ?_
 refine dP 43 rfl (K.move) ?_
 refine dP 44 rfl (K.Pure.eq (K.eql rfl rfl) (show _ = Value.bool true from rfl)) ?_
 refine K.d_norm (List.replicate 45 true ++ List.replicate 63 false).toArray (by as_aux_lemma => kernel_rfl) ?_
 refine dP 45 rfl (K.sA rfl) ?_
 refine dP 46 rfl (K.move) ?_
 refine dP 47 rfl (K.move) ?_
 refine dP 48 rfl (K.sA rfl) ?_
 refine dP 49 rfl (K.move) ?_
 refine K.d_norm (List.replicate 50 true ++ List.replicate 58 false).toArray (by as_aux_lemma => kernel_rfl) ?_
 refine dP 50 rfl (K.move) ?_
 first | refine K.d_pure 51 rfl (K.Pure.eq (K.fC rfl) (show _ = Value.bool true from rfl)) (by kernel_rfl) rfl ?_ | refine K.d_pure 51 rfl (K.Pure.eq (K.not_ rfl) (show _ = Value.bool true from rfl)) (by kernel_rfl) rfl ?_
 refine zN ?_
 refine dP 52 rfl (K.sA rfl) ?_
 refine dP 53 rfl (K.move) ?_
 refine dP 54 rfl (K.move) ?_
 refine K.d_norm (List.replicate 55 true ++ List.replicate 53 false).toArray (by as_aux_lemma => kernel_rfl) ?_
 refine K.kB 55 rfl (K.nA cal_33 (fun F w hF hw => c33 w)) (fun _ h => h) (by as_aux_lemma => kernel_rfl) rfl ?_
 refine zN ?_
 refine K.kB 56 rfl (K.nA cal_33 (fun F w hF hw => c33 w)) (fun _ h => h) (by as_aux_lemma => kernel_rfl) rfl ?_
 refine zN ?_
 refine K.kB 57 rfl (K.nA cal_33 (fun F w hF hw => c33 w)) (fun _ h => h) (by as_aux_lemma => kernel_rfl) rfl ?_
 refine zN ?_
 refine K.kB 58 rfl (K.nA cal_33 (fun F w hF hw => c33 w)) (fun _ h => h) (by as_aux_lemma => kernel_rfl) rfl ?_
 refine zN ?_
 refine K.d_new 59 rfl (K.buildSlice (bs41e)) (fun _ h => h) (by as_aux_lemma => kernel_rfl) rfl ?_
 intro b154
 refine zN ?_
 refine K.d_norm (List.replicate 60 true ++ List.replicate 48 false).toArray (by as_aux_lemma => kernel_rfl) ?_
 refine K.kB 60 rfl (K.nA cal_32 (fun F w hF hw => c32 (xs := [(1180, 1200), (900, 940), (910, 950), (900, 940)]) (K.Rd.own hw (hF _ (K.m8)) hqH (fun _ => rfl) (by decide)) (K.Rd.lit hw (hF _ (K.m0)) (fun _ => rfl) (by decide) rfl) (by decide))) (fun _ h => K.tl h) (by as_aux_lemma => kernel_rfl) rfl ?_
 refine zN ?_
 refine dP 61 rfl (K.sA rfl) ?_
 refine dP 62 rfl (K.move) ?_
 refine K.aC 63 rfl (K.jA kC rfl (K.m6) rfl) (fun _ h => K.tl h) (by as_aux_lemma => kernel_rfl) (by as_aux_lemma => kernel_rfl) rfl ?_
 refine zN ?_
 refine K.kB 64 rfl (K.nA cal_33 (fun F w hF hw => c33 w)) (fun _ h => K.tl h) (by as_aux_lemma => kernel_rfl) rfl ?_
 refine zN ?_
 refine K.d_norm (List.replicate 65 true ++ List.replicate 43 false).toArray (by as_aux_lemma => kernel_rfl) ?_
 refine dP 65 rfl (K.Pure.eq (K.eql_s2 s2_46 rfl rfl) (show _ = Value.bool true from rfl)) ?_
 refine dP 66 rfl (K.sA rfl) ?_
 refine dP 67 rfl (K.move) ?_
 refine dP 68 rfl (K.move) ?_
 refine dP 69 rfl (K.Pure.eq (K.eql rfl rfl) (show _ = Value.bool true from rfl)) ?_
 refine K.d_norm (List.replicate 70 true ++ List.replicate 38 false).toArray (by as_aux_lemma => kernel_rfl) ?_
 refine dP 70 rfl (K.sA rfl) ?_
 refine dP 71 rfl (K.move) ?_
 refine dP 72 rfl (K.move) ?_
 refine K.d_new 73 rfl (K.buildSlice (bsi1)) (fun _ h => K.tl h) (by as_aux_lemma => kernel_rfl) rfl ?_
 intro b168
 refine zN ?_
 refine K.kB 74 rfl (K.nA cal_34 (fun F w hF hw => Pn.c20t (xs := [0]) (K.Rd.own hw (hF _ (K.m7)) hqI (fun _ => rfl) (by decide)) (K.Rd.lit hw (hF _ (K.m0)) (fun _ => rfl) (by decide) rfl) (by decide))) (fun _ h => K.tl (K.tl h)) (by as_aux_lemma => kernel_rfl) rfl ?_
 refine zN ?_
 refine K.d_norm (List.replicate 75 true ++ List.replicate 33 false).toArray (by as_aux_lemma => kernel_rfl) ?_
 refine dP 75 rfl (K.sA rfl) ?_
 refine dP 76 rfl (K.move) ?_
 refine dP 77 rfl (K.move) ?_
 refine K.d_new 78 rfl (K.buildSlice (bsi3)) (fun _ h => K.tl (K.tl h)) (by as_aux_lemma => kernel_rfl) rfl ?_
 intro b173
 refine zN ?_
 refine K.kB 79 rfl (K.nA cal_34 (fun F w hF hw => Pn.c20t (xs := [0, 1, 4]) (K.Rd.own hw (hF _ (K.m7)) hqF (fun _ => rfl) (by decide)) (K.Rd.lit hw (hF _ (K.m0)) (fun _ => rfl) (by decide) rfl) (by decide))) (fun _ h => K.tl (K.tl (K.tl h))) (by as_aux_lemma => kernel_rfl) rfl ?_
 refine zN ?_
 refine K.d_norm (List.replicate 80 true ++ List.replicate 28 false).toArray (by as_aux_lemma => kernel_rfl) ?_
 refine dP 80 rfl (K.sA rfl) ?_
 refine dP 81 rfl (K.move) ?_
 refine dP 82 rfl (K.move) ?_
 refine K.d_new 83 rfl (K.buildSlice (bsi1)) (fun _ h => K.tl (K.tl (K.tl h))) (by as_aux_lemma => kernel_rfl) rfl ?_
 intro b178
 refine zN ?_
 refine K.kB 84 rfl (K.nA cal_34 (fun F w hF hw => Pn.c20t (xs := [0]) (K.Rd.own hw (hF _ (K.m7)) hqW (fun _ => rfl) (by decide)) (K.Rd.lit hw (hF _ (K.m0)) (fun _ => rfl) (by decide) rfl) (by decide))) (fun _ h => K.tl (K.tl (K.tl (K.tl h)))) (by as_aux_lemma => kernel_rfl) rfl ?_
 refine zN ?_
 refine K.d_norm (List.replicate 85 true ++ List.replicate 23 false).toArray (by as_aux_lemma => kernel_rfl) ?_
 refine dP 85 rfl (K.sA rfl) ?_
 refine dP 86 rfl (K.move) ?_
 refine dP 87 rfl (K.move) ?_
 refine dP 88 rfl (K.Pure.eq (K.eql rfl rfl) (show _ = Value.bool true from rfl)) ?_
 refine dP 89 rfl (K.sA rfl) ?_
 refine K.d_norm (List.replicate 90 true ++ List.replicate 18 false).toArray (by as_aux_lemma => kernel_rfl) ?_
 refine dP 90 rfl (K.move) ?_
 refine dP 91 rfl (K.move) ?_
 refine K.kB 92 rfl (K.nA cal_31 (fun F w hF hw => c31 w)) (fun _ h => K.tl (K.tl (K.tl (K.tl h)))) (by as_aux_lemma => kernel_rfl) rfl ?_
 refine zN ?_
 refine dP 93 rfl (K.Pure.eq (K.rC rfl rfl) (show _ = Value.bool true from congrArg Value.bool (beq_self_eq_true _))) ?_
 refine dP 94 rfl (K.sA rfl) ?_
 refine K.d_norm (List.replicate 95 true ++ List.replicate 13 false).toArray (by as_aux_lemma => kernel_rfl) ?_
 refine dP 95 rfl (K.move) ?_
 refine K.aC 96 rfl (K.jA ag_25 rfl (K.m0) rfl) (fun _ h => K.tl (K.tl (K.tl (K.tl h)))) (by as_aux_lemma => kernel_rfl) (by as_aux_lemma => kernel_rfl) rfl ?_
 refine zN ?_
 refine K.aC 97 rfl (K.jA ag_25 rfl (K.m8) rfl) (fun _ h => K.tl (K.tl (K.tl (K.tl h)))) (by as_aux_lemma => kernel_rfl) (by as_aux_lemma => kernel_rfl) rfl ?_
 refine zN ?_
 refine K.kB 98 rfl (K.nA cal_35 (fun F w hF hw => c35 (K.Rd.own hw (hF _ (K.m5)) hqP (fun _ => rfl) (by decide)) (K.Rd.own hw (hF _ (K.m6)) hqN (fun _ => rfl) (by decide)) (K.Rd.lit hw (hF _ (K.m14)) (fun _ => rfl) (by decide) rfl) (K.Rd.own hw (hF _ (K.m13)) hqS (fun _ => rfl) (by decide)) (by decide) (by decide) key_S)) (fun _ h => K.tl (K.tl (K.tl (K.tl h)))) (by as_aux_lemma => kernel_rfl) rfl ?_
 refine zN ?_
 refine dP 99 rfl (K.sA rfl) ?_
 refine K.d_norm (List.replicate 100 true ++ List.replicate 8 false).toArray (by as_aux_lemma => kernel_rfl) ?_
 refine dP 100 rfl (K.move) ?_
 refine K.kB 101 rfl (K.nA cal_36 (fun F w hF hw => (by have hg := Pn.c53 (s := ⟨#[97, 45, 57]⟩) w; rw [nm_y] at hg; exact hg))) (fun _ h => K.tl (K.tl (K.tl (K.tl h)))) (by as_aux_lemma => kernel_rfl) rfl ?_
 refine zN ?_
 refine dP 102 rfl (K.sA rfl) ?_
 refine dP 103 rfl (K.move) ?_
 refine K.kB 104 rfl (K.nA cal_36 (fun F w hF hw => (by have hg := Pn.c53 (s := ⟨#[57, 97]⟩) w; rw [nm_n] at hg; exact hg))) (fun _ h => K.tl (K.tl (K.tl (K.tl h)))) (by as_aux_lemma => kernel_rfl) rfl ?_
 refine zN ?_
 refine K.d_norm (List.replicate 105 true ++ List.replicate 3 false).toArray (by as_aux_lemma => kernel_rfl) ?_
 first | refine K.d_pure 105 rfl (K.Pure.eq (K.fC rfl) (show _ = Value.bool true from rfl)) (by kernel_rfl) rfl ?_ | refine K.d_pure 105 rfl (K.Pure.eq (K.not_ rfl) (show _ = Value.bool true from rfl)) (by kernel_rfl) rfl ?_
 refine zN ?_
 refine dP 106 rfl (K.sA rfl) ?_
 refine dP 107 rfl (K.assign) ?_
 refine dD (K.dA (K.ret (et ?_)))
 exact K.gives rfl

end Go.Proofs.YtnhhfkgldoeifaaGreatDoor.Sh
end
section
namespace Go.Proofs.YtnhhfkgldoeifaaGreatDoor.Sh
open Go.RowKit Go
open Go.K (setd setn ev nth over cl eI eP eT setM setF)
attribute [local irreducible] K.blk K.row
open Go.Proofs.YtnhhfkgldoeifaaGreatDoor.Pn (eN eS)

theorem mem_len {m : Pn.Mod} {G : List Int} {s : Nat} (h : m.ps.length ≤ 4611686018427387904) : (Pn.sureL (Pn.hgM m G) (s : Int)).length ≤ 4611686018427387904 ∧ (Pn.mayL (Pn.hgM m G) (s : Int)).length ≤ 4611686018427387904 := by
 have h1 : ∀ eye l k, (Pn.seenL (Pn.hgM m G) l k eye).length ≤ m.ps.length := fun eye l k => Pn.seenL_len (m := Pn.hgM m G)
 constructor
 ·unfold Pn.sureL
  split
  ·exact Nat.le_trans (h1 _ _ _) h
  ·exact Nat.zero_le _
 ·unfold Pn.mayL
  split
  ·exact Nat.le_trans (h1 _ _ _) h
  ·exact Nat.zero_le _

set_option maxRecDepth 100000 in
set_option maxHeartbeats 16000000 in
theorem c3 {iv : Int} {pts : List ByteArray} {nts : List NtT} {A B : Option Addr} {c d : Nat} {m : Pn.Mod} {A2 B2 C2 X Y : Option Addr} {c2 d2 e2 cx cy : Nat} {xs ys : List Int} {z0 z1 : Int} {w : World} (hP : K.Rd w A 1 eG pts) (hN : K.Rd w B 5 eO nts) (hn : pts.length ≤ 4611686018427387904) (hm : nts.length ≤ 4611686018427387904) (hcp : pts.length ≤ c) (hH : K.Rd w A2 1 K.eI m.hs) (hPi : K.Rd w B2 5 eN m.ps) (hSt : K.Rd w C2 4 eS m.ss) (hn1 : m.hs.length ≤ 4611686018427387904) (hn2 : m.ps.length ≤ 4611686018427387904) (hn3 : m.ss.length ≤ 4611686018427387904) (hcd : m.ps.length ≤ d2) (hX : K.Rd w X 1 eH xs) (hxb : ∀ x ∈ xs, 0 ≤ x ∧ x ≤ 65535) (hxl : xs.length ≤ 70368744175616) (hY : K.Rd w Y 1 eH ys) (hyb : ∀ x ∈ ys, 0 ≤ x ∧ x ≤ 65535) (hyl : ys.length ≤ 70368744175616) (hz0 : 0 ≤ z0 ∧ z0 ≤ 255) (hz1 : 0 ≤ z1 ∧ z1 ≤ 255) (hT : TabT w) (hTp : Pn.Tab w) :
  Calls Tryz.prog 3 [.agg #[.int .i64 iv, .slice A pts.length c, .slice B nts.length d], .agg #[.int .i64 m.W, .int .i64 m.D, .slice A2 m.hs.length c2, .slice B2 m.ps.length d2, .slice C2 m.ss.length e2], .agg #[.slice X xs.length cx, .slice Y ys.length cy, .int .u8 z0, .int .u8 z1]].toArray w (K.Gives (.bool true) w) := by
 refine K.enter (args := [.agg #[.int .i64 iv, .slice A pts.length c, .slice B nts.length d], .agg #[.int .i64 m.W, .int .i64 m.D, .slice A2 m.hs.length c2, .slice B2 m.ps.length d2, .slice C2 m.ss.length e2], .agg #[.slice X xs.length cx, .slice Y ys.length cy, .int .u8 z0, .int .u8 z1]]) Tryz.func3 rfl (n := 199) rfl ?_
 refine zR ?_
 refine sr ?_
 refine qn (K.box) fun b3 => ?_
 refine qn (K.box) fun b4 => ?_
 refine qn (K.box) fun b5 => ?_
 refine qa ?_
 refine sn (sr (ql (K.jA ag_25 rfl (K.m2) rfl) ?_))
 refine qc (K.nA cal_4 (fun F w hF hw => c4 (hP.pass hw) (hN.pass hw) hn hm hcp)) ?_
 refine qm ?_
 iterate 3 refine qx ?_
 iterate 3 refine qa ?_
 refine sn (sr (ql (K.jA cC rfl (K.m1) rfl) ?_))
 refine qc (K.nA cal_5 (fun F w hF hw => Pn.c17 (hH.pass hw) (hPi.pass hw) (hSt.pass hw) hn1 hn2 hn3)) ?_
 refine qm ?_
 iterate 3 refine qx ?_
 iterate 3 refine qa ?_
 refine sn (K.seq (sr (qm ?_)))
 refine qp (K.neq rfl rfl) ?_
 refine qm ?_
 refine K.split 42 rfl (fun hg42 => ?_) (fun hg42 => ?_)
 ·try replace hg42 := Kq.oT hg42
  iterate 2 refine qs ?_
  refine qp (K.sA rfl) ?_
  refine qm ?_
  iterate 4 refine qs ?_
  refine qp (K.sA rfl) ?_
  refine qm ?_
  iterate 4 refine qs ?_
  refine qp (K.sA rfl) ?_
  refine sn (K.yA rfl ?_)
  refine sr (qc (K.nA cal_6 (fun F w hF hw => c6 (hT.pass hw))) ?_)
  refine qm ?_
  refine qc (K.nA cal_7 (fun F w hF hw => Pn.c25 (hTp.pass hw))) ?_
  refine qp (K.sA rfl) ?_
  refine qa ?_
  refine sn (K.ret (K.iA (et ?_)))
  exact K.gives rfl
 try replace hg42 := Kq.oF hg42
 have hce : (chkS iv pts nts).2.2 = 0 := Decidable.not_not.1 hg42
 refine qm ?_
 refine qp (K.neq rfl rfl) ?_
 refine qp (K.dB rfl) ?_
 refine qm ?_
 refine K.split 46 rfl (fun hg46 => ?_) (fun hg46 => ?_)
 ·try replace hg46 := Kq.oT hg46
  iterate 4 refine qs ?_
  refine qp (K.sA rfl) ?_
  refine qm ?_
  iterate 4 refine qs ?_
  refine qp (K.sA rfl) ?_
  refine sn (K.yA rfl ?_)
  refine sr (qc (K.nA cal_6 (fun F w hF hw => c6 (hT.pass hw))) ?_)
  refine qm ?_
  refine qc (K.nA cal_7 (fun F w hF hw => Pn.c25 (hTp.pass hw))) ?_
  refine qp (K.sA rfl) ?_
  refine qa ?_
  refine sn (K.ret (K.iA (et ?_)))
  exact K.gives rfl
 try replace hg46 := Kq.oF hg46
 have hcm : (Pn.chk m).2.2 = 0 := Decidable.not_not.1 hg46
 refine qp (K.aA fo_30_4 rfl) ?_
 refine ql (K.fA one_28 rfl (K.m1) rfl) ?_
 refine qp (K.aB tC rfl) ?_
 refine qp (K.eql rfl rfl) ?_
 refine qp (K.dB rfl) ?_
 refine qm ?_
 refine K.split 52 rfl (fun hg52 => ?_) (fun hg52 => ?_)
 ·try replace hg52 := Kq.oT hg52
  iterate 4 refine qs ?_
  refine qp (K.sA rfl) ?_
  refine sn (K.yA rfl ?_)
  refine sr (qc (K.nA cal_6 (fun F w hF hw => c6 (hT.pass hw))) ?_)
  refine qm ?_
  refine qc (K.nA cal_7 (fun F w hF hw => Pn.c25 (hTp.pass hw))) ?_
  refine qp (K.sA rfl) ?_
  refine qa ?_
  refine sn (K.ret (K.iA (et ?_)))
  exact K.gives rfl
 try replace hg52 := Kq.oF hg52
 refine qp (K.aA bC rfl) ?_
 refine ql (K.fA lC rfl (K.m1) rfl) ?_
 refine qp (K.aB oC rfl) ?_
 refine qp (K.eql rfl rfl) ?_
 refine qp (K.dB rfl) ?_
 refine sn ?_
 refine K.cond rfl (fun ht57 => ?_) (fun ht57 => ?_)
 ·try replace ht57 := Kq.oT ht57
  refine sr (qc (K.nA cal_6 (fun F w hF hw => c6 (hT.pass hw))) ?_)
  refine qm ?_
  refine qc (K.nA cal_7 (fun F w hF hw => Pn.c25 (hTp.pass hw))) ?_
  refine qp (K.sA rfl) ?_
  refine qa ?_
  refine sn (K.ret (K.iA (et ?_)))
  exact K.gives rfl
 try replace ht57 := Kq.oF ht57
 have g := chkS_good hce
 have gm := Pn.chk_good hcm
 have hgn := g.n
 have hgl := g.l
 have hwd : m.W * m.D = (m.hs.length : Int) := gm.l.symm
 have hmw := gm.w
 have hmd := gm.d
 have hml : m.hs.length ≤ 64 := by
  have hw8 : m.W = 1 ∨ m.W = 2 ∨ m.W = 3 ∨ m.W = 4 ∨ m.W = 5 ∨ m.W = 6 ∨ m.W = 7 ∨ m.W = 8 := by omega
  rcases hw8 with h | h | h | h | h | h | h | h <;> rw [h] at hwd <;> omega
 have hss : 0 < m.ss.length := by omega
 have hps : 0 < m.ps.length := by omega
 obtain ⟨s, hse, hs⟩ : ∃ s : Nat, z0 % (m.ss.length : Int) = (s : Int) ∧ s < m.ss.length := ⟨(z0 % (m.ss.length : Int)).toNat, by have h1 := Int.emod_nonneg z0 (show (m.ss.length : Int) ≠ 0 by omega); omega, by have h1 := Int.emod_lt_of_pos z0 (show 0 < (m.ss.length : Int) by omega); have h2 := Int.emod_nonneg z0 (show (m.ss.length : Int) ≠ 0 by omega); omega⟩
 obtain ⟨i, hie, hi⟩ : ∃ i : Nat, z1 % (m.ps.length : Int) = (i : Int) ∧ i < m.ps.length := ⟨(z1 % (m.ps.length : Int)).toNat, by have h1 := Int.emod_nonneg z1 (show (m.ps.length : Int) ≠ 0 by omega); omega, by have h1 := Int.emod_lt_of_pos z1 (show 0 < (m.ps.length : Int) by omega); have h2 := Int.emod_nonneg z1 (show (m.ps.length : Int) ≠ 0 by omega); omega⟩
 have hfl := gm.fld hi
 have hpx := (gm.p i hi).1
 have hHl : (truN xs pts.length).length = pts.length := tru_len
 have hLl : (hgtL (allB iv (tldK iv nts (truN xs pts.length) ys pts.length nts.length) 0 (tldK iv nts (truN xs pts.length) ys pts.length nts.length).length).1 pts.length).length = (truN xs pts.length).length := by rw [hgt_len, tru_len]
 have hin : ∀ k, k < (truN xs pts.length).length → 0 ≤ ((hgtL (allB iv (tldK iv nts (truN xs pts.length) ys pts.length nts.length) 0 (tldK iv nts (truN xs pts.length) ys pts.length nts.length).length).1 pts.length).getD k default).1 ∧ ((hgtL (allB iv (tldK iv nts (truN xs pts.length) ys pts.length nts.length) 0 (tldK iv nts (truN xs pts.length) ys pts.length nts.length).length).1 pts.length).getD k default).1 ≤ (truN xs pts.length).getD k default ∧ (truN xs pts.length).getD k default ≤ ((hgtL (allB iv (tldK iv nts (truN xs pts.length) ys pts.length nts.length) 0 (tldK iv nts (truN xs pts.length) ys pts.length nts.length).length).1 pts.length).getD k default).2 ∧ ((hgtL (allB iv (tldK iv nts (truN xs pts.length) ys pts.length nts.length) 0 (tldK iv nts (truN xs pts.length) ys pts.length nts.length).length).1 pts.length).getD k default).2 ≤ 9000 := fun k hk => (told_in (off := ys) (ns := nts) (k := nts.length) (i := k) g.i.1 tru_len g.n.2 tru_bd (by rw [tru_len] at hk; exact hk)).2
 have hlb := span_bd hLl hin
 have hrb := re_bd (h := (truN xs pts.length)) tru_bd
 have hRl : (reS (truN xs pts.length)).length = (truN xs pts.length).length := reS_len
 have hlaw := heads (m := m) (s := s) (i := i) hcm hs hi hLl (by omega) hin
 have cA := Pn.hg_chk hcm (grd_len (l := (hgtL (allB iv (tldK iv nts (truN xs pts.length) ys pts.length nts.length) 0 (tldK iv nts (truN xs pts.length) ys pts.length nts.length).length).1 pts.length)) (own := Pn.fldS m i) (hb := false) (n := m.hs.length)) (grd_bd (by omega) hlb)
 have cB := Pn.hg_chk hcm (grd_len (l := reS (truN xs pts.length)) (own := Pn.fldS m i) (hb := false) (n := m.hs.length)) (grd_bd (by omega) hrb)
 have cD := Pn.hg_chk hcm (grd_len (l := (hgtL (allB iv (tldK iv nts (truN xs pts.length) ys pts.length nts.length) 0 (tldK iv nts (truN xs pts.length) ys pts.length nts.length).length).1 pts.length)) (own := Pn.fldS m i) (hb := true) (n := m.hs.length)) (grd_bd (by omega) hlb)
 refine K.skip (K.dA (sr (ql (K.jA ag_25 rfl (K.m2) rfl) ?_)))
 refine qp (K.aA fo_34_0 rfl) ?_
 refine ql (K.fA one_31 rfl (K.m0) rfl) ?_
 refine K.gB (K.lB cal_8 (fun F w hF hw => c8 hgn.2 (hX.pass hw) hxb hxl)) rfl ?_
 rintro ⟨Qh, qh⟩ hqh
 refine zN ?_
 refine qa ?_
 refine sn (sr (ql (K.jA ag_25 rfl (K.m3) rfl) ?_))
 refine qm ?_
 refine qp (K.aA fo_34_1 rfl) ?_
 refine ql (K.fA one_31 rfl (K.m1) rfl) ?_
 refine K.gB (K.lB cal_10 (fun F w hF hw => c10 (hP.pass hw) (hN.pass hw) g hcp (K.Rd.own hw (hF _ (K.m0)) hqh (fun _ => rfl) (by decide)) tru_len tru_bd (hY.pass hw) hyb hyl)) rfl ?_
 rintro ⟨Qt, qt_⟩ _
 refine zN ?_
 refine K.iC (A := Qt) K.m0 (fun hqt => ?_)
 refine zN ?_
 refine K.gB (K.lB cal_9 (fun F w hF hw => c9y (hP.pass hw) (K.Rd.own hw (hF _ (K.m0)) hqt (fun _ => rfl) (by decide)) (told_good g tru_len tru_bd) (told_all g tru_len tru_bd))) rfl ?_
 rintro ⟨Ql, ql_⟩ hql
 refine zN ?_
 refine qm ?_
 iterate 2 refine qx ?_
 iterate 2 refine qa ?_
 refine sn (K.seq (sr (qm ?_)))
 refine qp (K.Pure.eq (K.neq rfl rfl) (show _ = Value.bool false from rfl)) ?_
 iterate 2 refine qm ?_
 refine qp (K.aB sl_41 rfl) ?_
 refine qm ?_
 refine qp (K.aB yB rfl) ?_
 refine qp (K.Pure.eq (K.neq rfl rfl) (show _ = Value.bool false from congrArg Value.bool (decide_eq_false (by omega)))) ?_
 refine qp (K.dB rfl) ?_
 refine sn (K.oA rfl ?_)
 refine K.skip (K.dA (sr (qa ?_)))
 refine sn (K.seq (sr ?_))
 refine K.jC (e := 46) (size := 2) ?_
 refine qa ?_
 refine sn (K.block ?_)
 refine K.loopW [15, 16] [84, 85, 86, 87, 88, 89, 90, 91, 92, 93, 94, 95, 96, 97, 98, 99, 100, 101] (fun vi L => ∃ (k : Nat) (Q : Option Addr) (q : Nat), vi = [.slice Q ((reS (truN xs pts.length)).take k).length q, .int .i64 (k : Int)] ∧ L = [K.row (.slice Q ((reS (truN xs pts.length)).take k).length q) 46 2 ((reS (truN xs pts.length)).take k).length (((reS (truN xs pts.length)).take k).flatMap K.eP), K.row (.slice Ql (hgtL (allB iv (tldK iv nts (truN xs pts.length) ys pts.length nts.length) 0 (tldK iv nts (truN xs pts.length) ys pts.length nts.length).length).1 pts.length).length ql_) 46 2 (hgtL (allB iv (tldK iv nts (truN xs pts.length) ys pts.length nts.length) 0 (tldK iv nts (truN xs pts.length) ys pts.length nts.length).length).1 pts.length).length ((hgtL (allB iv (tldK iv nts (truN xs pts.length) ys pts.length nts.length) 0 (tldK iv nts (truN xs pts.length) ys pts.length nts.length).length).1 pts.length).flatMap K.eP), K.row (.slice Qt (tldK iv nts (truN xs pts.length) ys pts.length nts.length).length qt_) 58 5 (tldK iv nts (truN xs pts.length) ys pts.length nts.length).length ((tldK iv nts (truN xs pts.length) ys pts.length nts.length).flatMap eO), K.row (.slice Qh (truN xs pts.length).length qh) 3 1 (truN xs pts.length).length ((truN xs pts.length).flatMap K.eI), K.blk b5 34 [.slice X xs.length cx, .slice Y ys.length cy, .int .u8 z0, .int .u8 z1], K.blk b4 30 [.int .i64 m.W, .int .i64 m.D, .slice A2 m.hs.length c2, .slice B2 m.ps.length d2, .slice C2 m.ss.length e2], K.blk b3 25 [.int .i64 iv, .slice A pts.length c, .slice B nts.length d]] ∧ k ≤ (truN xs pts.length).length) (fun vi => (truN xs pts.length).length - (intOf (K.nth vi 1)).toNat) ?_ ?_
 ·exact ⟨0, none, 0, rfl, rfl, Nat.zero_le _⟩
 intro vi vr L hJ
 obtain ⟨k, Q, q, rfl, rfl, hkn⟩ := hJ
 refine zY ?_
 refine K.seq (sr ?_)
 iterate 2 refine qm ?_
 refine qp (K.aB yB rfl) ?_
 refine qp (K.lss rfl rfl) ?_
 refine sn ?_
 refine K.cond rfl (fun ht87 => ?_) (fun ht87 => ?_)
 ·try replace ht87 := Kq.oT ht87
  have hk : k < (truN xs pts.length).length := by omega
  refine K.skip (K.dA (K.seq (K.block ?_)))
  refine K.draw_drop 1 [] uA ?_
  refine dp 0 rfl (K.move) ?_
  refine dp 1 rfl (K.move) ?_
  refine dp 2 rfl (K.move) ?_
  refine K.d_ix (M := [K.row (.slice Qh (truN xs pts.length).length qh) 3 1 (truN xs pts.length).length ((truN xs pts.length).flatMap K.eI)]) 3 _ rfl (K.Sl.own (w0 := w) (t := 3) (c := qh) (e := K.eI) hqh (fun _ => rfl)) yB rfl rfl rfl (by omega) (by kernel_rfl) rfl ?_
  intro p93 hp93
  refine zN ?_
  refine K.aC 4 rfl (K.load1 one_3 rfl (hp93.at1 (K.m2))) (fun _ h => K.tl h) (by kernel_rfl) (by kernel_rfl) rfl ?_
  refine zN ?_
  refine dp 5 rfl (K.move) ?_
  refine dp 6 rfl (K.move) ?_
  refine K.d_ix (M := [K.row (.slice Qh (truN xs pts.length).length qh) 3 1 (truN xs pts.length).length ((truN xs pts.length).flatMap K.eI)]) 7 _ rfl (K.Sl.own (w0 := w) (t := 3) (c := qh) (e := K.eI) hqh (fun _ => rfl)) yB rfl rfl rfl (by omega) (by kernel_rfl) rfl ?_
  intro p97 hp97
  refine zN ?_
  refine K.aC 8 rfl (K.load1 one_3 rfl (hp97.at1 (K.m2))) (fun _ h => K.tl h) (by kernel_rfl) (by kernel_rfl) rfl ?_
  refine zN ?_
  refine dp 9 rfl (K.build (bl46 _ _)) ?_
  refine K.d_new 10 rfl (K.buildSlice (bsP41 _ _)) (fun _ h => K.tl h) (by kernel_rfl) rfl ?_
  intro b100
  refine zN ?_
  refine K.sC 11 rfl (K.append el_41 rfl rfl (K.PtrL.own' (K.m0)) rfl rfl (by decide) (by rw [List.length_take]; omega) (by rw [List.length_take]; omega) (fun _ _ => K.rp1)) (fun _ => fun _ h => K.tl (K.tl h)) (by kernel_rfl) rfl ?_
  rintro ⟨g101, c101⟩ _
  refine zN ?_
  refine dp 12 rfl (K.assign) ?_
  refine dd (K.kA (K.dA (K.gA (qm ?_))))
  refine qp (K.tA rfl rfl (by omega)) ?_
  refine qa ?_
  refine K.lA ?_
  have hs2 : ((reS (truN xs pts.length)).take (k + 1)) = ((reS (truN xs pts.length)).take k) ++ [(((truN xs pts.length).getD k default), ((truN xs pts.length).getD k default))] := by rw [take_s (by omega), reS_at hk]
  have hl2 : ((reS (truN xs pts.length)).take (k + 1)).length = ((reS (truN xs pts.length)).take k).length + 1 := by rw [hs2, List.length_append]; rfl
  have hf2 : ((reS (truN xs pts.length)).take (k + 1)).flatMap K.eP = ((reS (truN xs pts.length)).take k).flatMap K.eP ++ [.int .i64 ((truN xs pts.length).getD k default), .int .i64 ((truN xs pts.length).getD k default)] := by rw [hs2, List.flatMap_append]; rfl
  exact K.rA (L'' := [K.row (.slice (some ⟨g101, 0, none⟩) (((reS (truN xs pts.length)).take k).length + 1) c101) 46 2 (((reS (truN xs pts.length)).take k).length + 1) (((reS (truN xs pts.length)).take k).flatMap K.eP ++ [.int .i64 ((truN xs pts.length).getD k default), .int .i64 ((truN xs pts.length).getD k default)]), K.row (.slice Ql (hgtL (allB iv (tldK iv nts (truN xs pts.length) ys pts.length nts.length) 0 (tldK iv nts (truN xs pts.length) ys pts.length nts.length).length).1 pts.length).length ql_) 46 2 (hgtL (allB iv (tldK iv nts (truN xs pts.length) ys pts.length nts.length) 0 (tldK iv nts (truN xs pts.length) ys pts.length nts.length).length).1 pts.length).length ((hgtL (allB iv (tldK iv nts (truN xs pts.length) ys pts.length nts.length) 0 (tldK iv nts (truN xs pts.length) ys pts.length nts.length).length).1 pts.length).flatMap K.eP), K.row (.slice Qt (tldK iv nts (truN xs pts.length) ys pts.length nts.length).length qt_) 58 5 (tldK iv nts (truN xs pts.length) ys pts.length nts.length).length ((tldK iv nts (truN xs pts.length) ys pts.length nts.length).flatMap eO), K.row (.slice Qh (truN xs pts.length).length qh) 3 1 (truN xs pts.length).length ((truN xs pts.length).flatMap K.eI), K.blk b5 34 [.slice X xs.length cx, .slice Y ys.length cy, .int .u8 z0, .int .u8 z1], K.blk b4 30 [.int .i64 m.W, .int .i64 m.D, .slice A2 m.hs.length c2, .slice B2 m.ps.length d2, .slice C2 m.ss.length e2], K.blk b3 25 [.int .i64 iv, .slice A pts.length c, .slice B nts.length d]]) [.slice (some ⟨g101, 0, none⟩) (((reS (truN xs pts.length)).take k).length + 1) c101, .int .i64 ((k : Int) + 1)] ⟨k + 1, some ⟨g101, 0, none⟩, c101, by rw [hl2]; rfl, by rw [hl2, hf2], by omega⟩ (by simp [K.nth, intOf]; omega) (Kq.s1 Kq.s0) (by kernel_rfl)
 try replace ht87 := Kq.oF ht87
 have e0 : k = (truN xs pts.length).length := by omega
 subst e0
 rw [List.take_of_length_le (by omega)]
 refine K.exit (K.pA (K.pA (K.zA (K.dA (K.seq ?_)))))
 refine K.iC (A := Q) K.m0 (fun hqr => ?_)
 refine K.nB [] uA ?_
 refine dp 0 rfl (K.aA fo_34_2 rfl) ?_
 refine dp 1 rfl (K.iB ar_32 rfl rfl (by omega) (by omega)) ?_
 refine dm 2 rfl (K.fA one_5 rfl (K.m4) rfl) ?_
 refine dp 3 rfl (K.Pure.eq (K.conv_int ik_5 ik_3 rfl) (show _ = Value.int .i64 z0 from by rw [IntWalk.i64_in _ (by omega)])) ?_
 refine dp 4 rfl (K.aA fo_30_4 rfl) ?_
 refine dm 5 rfl (K.fA one_28 rfl (K.m5) rfl) ?_
 refine dp 6 rfl (K.aB tC rfl) ?_
 refine dp 7 rfl (K.Pure.eq (K.rem_i64 rfl rfl (by omega) (by omega)) (show _ = Value.int .i64 (s : Int) from by rw [hse])) ?_
 refine dp 8 rfl (K.aA fo_34_2 rfl) ?_
 refine dp 9 rfl (K.iB ar_32 rfl rfl (by omega) (by omega)) ?_
 refine dm 10 rfl (K.fA one_5 rfl (K.m4) rfl) ?_
 refine dp 11 rfl (K.Pure.eq (K.conv_int ik_5 ik_3 rfl) (show _ = Value.int .i64 z1 from by rw [IntWalk.i64_in _ (by omega)])) ?_
 refine dp 12 rfl (K.aA bC rfl) ?_
 refine dm 13 rfl (K.fA lC rfl (K.m5) rfl) ?_
 refine dp 14 rfl (K.aB oC rfl) ?_
 refine dp 15 rfl (K.Pure.eq (K.rem_i64 rfl rfl (by omega) (by omega)) (show _ = Value.int .i64 (i : Int) from by rw [hie])) ?_
 refine dp 16 rfl (K.assign) ?_
 refine dp 17 rfl (K.assign) ?_
 refine dd (K.dA (K.seq ?_))
 refine K.nB [] uA ?_
 refine dp 0 rfl (K.aA bC rfl) ?_
 refine dm 1 rfl (K.fA lC rfl (K.m5) rfl) ?_
 refine dp 2 rfl (K.move) ?_
 refine K.d_ix (M := []) 3 _ rfl hPi.sl oC rfl rfl rfl (by omega) (by kernel_rfl) rfl ?_
 intro p121 hp121
 refine zN ?_
 refine dp 4 rfl (K.fieldAddr fo_48_2 rfl) ?_
 refine dm 5 rfl (K.load1 one_3 rfl ((K.PtrL.fld hp121 (k := 2)).any)) ?_
 refine dp 6 rfl (K.aA fo_30_0 rfl) ?_
 refine dm 7 rfl (K.fA one_3 rfl (K.m5) rfl) ?_
 refine dp 8 rfl (K.mul_i64 rfl rfl (by omega)) ?_
 refine dp 9 rfl (K.aA bC rfl) ?_
 refine dm 10 rfl (K.fA lC rfl (K.m5) rfl) ?_
 refine dp 11 rfl (K.move) ?_
 refine K.d_ix (M := []) 12 _ rfl hPi.sl oC rfl rfl rfl (by omega) (by kernel_rfl) rfl ?_
 intro p130 hp130
 refine zN ?_
 refine dp 13 rfl (K.fieldAddr fo_48_1 rfl) ?_
 refine dm 14 rfl (K.load1 one_3 rfl ((K.PtrL.fld hp130 (k := 1)).any)) ?_
 refine dp 15 rfl (K.Pure.eq (K.tA rfl rfl (by omega)) (show _ = Value.int .i64 (Pn.fldS m i) from rfl)) ?_
 refine dp 16 rfl (K.assign) ?_
 refine dd (K.dA (sr (ql (K.jA cC rfl (K.m5) rfl) ?_)))
 iterate 2 refine qm ?_
 refine K.gB (K.lB cal_12 (fun F w hF hw => c12 (hb := false) (n := m.hs.length) (K.Rd.own hw (hF _ (K.m1)) hql (fun _ => rfl) (by decide)) (by omega) (by omega) hlb hwd (by omega))) rfl ?_
 rintro ⟨Qa, qa_⟩ _
 refine zN ?_
 refine K.iC (A := Qa) K.m0 (fun hqa => ?_)
 refine zN ?_
 refine qm ?_
 refine K.gB (K.lB cal_11 (fun F w hF hw => (by have hg := Pn.c21 (m := Pn.hgM m (grdS (hgtL (allB iv (tldK iv nts (truN xs pts.length) ys pts.length nts.length) 0 (tldK iv nts (truN xs pts.length) ys pts.length nts.length).length).1 pts.length) (Pn.fldS m i) false m.hs.length)) (s := (s : Int)) (c := qa_) (d := d2) (e := e2) (K.Rd.own hw (hF _ (K.m0)) hqa (fun _ => rfl) (by decide)) (hPi.pass hw) (hSt.pass hw) (by show (grdS (hgtL (allB iv (tldK iv nts (truN xs pts.length) ys pts.length nts.length) 0 (tldK iv nts (truN xs pts.length) ys pts.length nts.length).length).1 pts.length) (Pn.fldS m i) false m.hs.length).length ≤ _; rw [grd_len]; omega) hn2 hn3 hcd (hTp.pass hw); rw [Pn.seen_0 (m := Pn.hgM m (grdS (hgtL (allB iv (tldK iv nts (truN xs pts.length) ys pts.length nts.length) 0 (tldK iv nts (truN xs pts.length) ys pts.length nts.length).length).1 pts.length) (Pn.fldS m i) false m.hs.length)) (s := s) cA hs] at hg; exact hg))) rfl ?_
 rintro ⟨⟨Sa, sa⟩, Ma, ma⟩ hsa
 refine zN ?_
 refine qm ?_
 iterate 3 refine qx ?_
 iterate 3 refine qa ?_
 refine sn (sr (ql (K.jA cC rfl (K.m8) rfl) ?_))
 iterate 2 refine qm ?_
 refine K.gB (K.lB cal_12 (fun F w hF hw => c12 (hb := false) (n := m.hs.length) (K.Rd.own hw (hF _ (K.m3)) hqr (fun _ => rfl) (by decide)) (by omega) (by omega) hrb hwd (by omega))) rfl ?_
 rintro ⟨Qb, qb⟩ _
 refine zN ?_
 refine K.iC (A := Qb) K.m0 (fun hqb => ?_)
 refine zN ?_
 refine qm ?_
 refine K.gB (K.lB cal_11 (fun F w hF hw => (by have hg := Pn.c21 (m := Pn.hgM m (grdS (reS (truN xs pts.length)) (Pn.fldS m i) false m.hs.length)) (s := (s : Int)) (c := qb) (d := d2) (e := e2) (K.Rd.own hw (hF _ (K.m0)) hqb (fun _ => rfl) (by decide)) (hPi.pass hw) (hSt.pass hw) (by show (grdS (reS (truN xs pts.length)) (Pn.fldS m i) false m.hs.length).length ≤ _; rw [grd_len]; omega) hn2 hn3 hcd (hTp.pass hw); rw [Pn.seen_0 (m := Pn.hgM m (grdS (reS (truN xs pts.length)) (Pn.fldS m i) false m.hs.length)) (s := s) cB hs] at hg; exact hg))) rfl ?_
 rintro ⟨⟨Sb, sb⟩, Mb, mb⟩ hsb
 refine zN ?_
 refine qm ?_
 iterate 3 refine qx ?_
 iterate 3 refine qa ?_
 refine sn (sr (ql (K.jA cC rfl (K.m11) rfl) ?_))
 iterate 2 refine qm ?_
 refine K.gB (K.lB cal_12 (fun F w hF hw => c12 (hb := true) (n := m.hs.length) (K.Rd.own hw (hF _ (K.m7)) hql (fun _ => rfl) (by decide)) (by omega) (by omega) hlb hwd (by omega))) rfl ?_
 rintro ⟨Qd, qd⟩ _
 refine zN ?_
 refine K.iC (A := Qd) K.m0 (fun hqd => ?_)
 refine zN ?_
 refine qm ?_
 refine K.gB (K.lB cal_11 (fun F w hF hw => (by have hg := Pn.c21 (m := Pn.hgM m (grdS (hgtL (allB iv (tldK iv nts (truN xs pts.length) ys pts.length nts.length) 0 (tldK iv nts (truN xs pts.length) ys pts.length nts.length).length).1 pts.length) (Pn.fldS m i) true m.hs.length)) (s := (s : Int)) (c := qd) (d := d2) (e := e2) (K.Rd.own hw (hF _ (K.m0)) hqd (fun _ => rfl) (by decide)) (hPi.pass hw) (hSt.pass hw) (by show (grdS (hgtL (allB iv (tldK iv nts (truN xs pts.length) ys pts.length nts.length) 0 (tldK iv nts (truN xs pts.length) ys pts.length nts.length).length).1 pts.length) (Pn.fldS m i) true m.hs.length).length ≤ _; rw [grd_len]; omega) hn2 hn3 hcd (hTp.pass hw); rw [Pn.seen_0 (m := Pn.hgM m (grdS (hgtL (allB iv (tldK iv nts (truN xs pts.length) ys pts.length nts.length) 0 (tldK iv nts (truN xs pts.length) ys pts.length nts.length).length).1 pts.length) (Pn.fldS m i) true m.hs.length)) (s := s) cD hs] at hg; exact hg))) rfl ?_
 rintro ⟨⟨Sd, sd⟩, Md, md⟩ hsd
 refine zN ?_
 refine qm ?_
 iterate 3 refine qx ?_
 iterate 3 refine qa ?_
 refine sn (sr (qm ?_))
 refine qp (K.Pure.eq (K.eql rfl rfl) (show _ = Value.bool true from rfl)) ?_
 iterate 2 refine qm ?_
 refine qp (K.Pure.eq (K.eql rfl rfl) (show _ = Value.bool true from rfl)) ?_
 refine qp (K.sA rfl) ?_
 iterate 2 refine qm ?_
 refine qp (K.Pure.eq (K.eql rfl rfl) (show _ = Value.bool true from rfl)) ?_
 refine qp (K.sA rfl) ?_
 iterate 3 refine qm ?_
 refine qc (K.nA cal_13 (fun F w hF hw => c13 (K.Rd.own hw (hF _ (K.m7)) hsa.1 (fun _ => rfl) (by decide)) (mem_len (m := m) (G := (grdS (hgtL (allB iv (tldK iv nts (truN xs pts.length) ys pts.length nts.length) 0 (tldK iv nts (truN xs pts.length) ys pts.length nts.length).length).1 pts.length) (Pn.fldS m i) false m.hs.length)) (s := s) hn2).1)) ?_
 first | refine K.mA (K.fC rfl) rfl ?_ | refine K.mA (K.not_ rfl) rfl ?_
 refine zN ?_
 refine qm ?_
 refine K.split 179 rfl (fun hg179 => ?_) (fun hg179 => ?_)
 ·try replace hg179 := Kq.oT hg179
  iterate 3 refine qs ?_
  refine qp (K.sA rfl) ?_
  refine qp (K.sA rfl) ?_
  iterate 3 refine qm ?_
  refine qc (K.nA cal_13 (fun F w hF hw => c13 (K.Rd.own hw (hF _ (K.m0)) hsd.2 (fun _ => rfl) (by decide)) (mem_len (m := m) (G := (grdS (hgtL (allB iv (tldK iv nts (truN xs pts.length) ys pts.length nts.length) 0 (tldK iv nts (truN xs pts.length) ys pts.length nts.length).length).1 pts.length) (Pn.fldS m i) true m.hs.length)) (s := s) hn2).2)) ?_
  refine qm ?_
  refine K.split 189 rfl (fun hg189 => ?_) (fun hg189 => ?_)
  ·try replace hg189 := Kq.oT hg189
   iterate 4 refine qs ?_
   refine qp (K.sA rfl) ?_
   refine qp (K.sA rfl) ?_
   refine qm ?_
   refine qc (K.nA cal_6 (fun F w hF hw => c6 (hT.pass hw))) ?_
   refine qp (K.sA rfl) ?_
   refine qm ?_
   refine qc (K.nA cal_7 (fun F w hF hw => Pn.c25 (hTp.pass hw))) ?_
   refine qp (K.sA rfl) ?_
   refine qa ?_
   refine sn (K.ret (et ?_))
   exact K.gives rfl
  try replace hg189 := Kq.oF hg189
  have hpc : ¬ ((i : Int) ∈ Pn.mayL (Pn.hgM m (grdS (reS (truN xs pts.length)) (Pn.fldS m i) false m.hs.length)) (s : Int)) := fun h => hg189 (hlaw.2 h)
  iterate 2 refine qm ?_
  refine qc (K.nA cal_13 (fun F w hF hw => (by have hg := c13 (n := (i : Int)) (c := mb) (K.Rd.own hw (hF _ (K.m3)) hsb.2 (fun _ => rfl) (by decide)) (mem_len (m := m) (G := (grdS (reS (truN xs pts.length)) (Pn.fldS m i) false m.hs.length)) (s := s) hn2).2; rw [decide_eq_false hpc] at hg; exact hg))) ?_
  first | refine K.mA (K.Pure.eq (K.fC rfl) (show _ = Value.bool true from rfl)) rfl ?_ | refine K.mA (K.Pure.eq (K.not_ rfl) (show _ = Value.bool true from rfl)) rfl ?_
  refine zN ?_
  refine qp (K.dB rfl) ?_
  refine qp (K.sA rfl) ?_
  refine qm ?_
  refine qc (K.nA cal_6 (fun F w hF hw => c6 (hT.pass hw))) ?_
  refine qp (K.sA rfl) ?_
  refine qm ?_
  refine qc (K.nA cal_7 (fun F w hF hw => Pn.c25 (hTp.pass hw))) ?_
  refine qp (K.sA rfl) ?_
  refine qa ?_
  refine sn (K.ret (et ?_))
  exact K.gives rfl
 try replace hg179 := Kq.oF hg179
 have hpa : ((i : Int) ∈ Pn.sureL (Pn.hgM m (grdS (hgtL (allB iv (tldK iv nts (truN xs pts.length) ys pts.length nts.length) 0 (tldK iv nts (truN xs pts.length) ys pts.length nts.length).length).1 pts.length) (Pn.fldS m i) false m.hs.length)) (s : Int)) := by simpa using hg179
 have hpb := hlaw.1 hpa
 iterate 2 refine qm ?_
 refine qc (K.nA cal_13 (fun F w hF hw => (by have hg := c13 (n := (i : Int)) (c := sb) (K.Rd.own hw (hF _ (K.m4)) hsb.1 (fun _ => rfl) (by decide)) (mem_len (m := m) (G := (grdS (reS (truN xs pts.length)) (Pn.fldS m i) false m.hs.length)) (s := s) hn2).1; rw [decide_eq_true hpb] at hg; exact hg))) ?_
 refine qp (K.dB rfl) ?_
 refine qp (K.sA rfl) ?_
 iterate 3 refine qm ?_
 refine qc (K.nA cal_13 (fun F w hF hw => c13 (K.Rd.own hw (hF _ (K.m0)) hsd.2 (fun _ => rfl) (by decide)) (mem_len (m := m) (G := (grdS (hgtL (allB iv (tldK iv nts (truN xs pts.length) ys pts.length nts.length) 0 (tldK iv nts (truN xs pts.length) ys pts.length nts.length).length).1 pts.length) (Pn.fldS m i) true m.hs.length)) (s := s) hn2).2)) ?_
 refine qm ?_
 refine K.split 189 rfl (fun hg189 => ?_) (fun hg189 => ?_)
 ·try replace hg189 := Kq.oT hg189
  iterate 4 refine qs ?_
  refine qp (K.sA rfl) ?_
  refine qp (K.sA rfl) ?_
  refine qm ?_
  refine qc (K.nA cal_6 (fun F w hF hw => c6 (hT.pass hw))) ?_
  refine qp (K.sA rfl) ?_
  refine qm ?_
  refine qc (K.nA cal_7 (fun F w hF hw => Pn.c25 (hTp.pass hw))) ?_
  refine qp (K.sA rfl) ?_
  refine qa ?_
  refine sn (K.ret (et ?_))
  exact K.gives rfl
 try replace hg189 := Kq.oF hg189
 have hpc : ¬ ((i : Int) ∈ Pn.mayL (Pn.hgM m (grdS (reS (truN xs pts.length)) (Pn.fldS m i) false m.hs.length)) (s : Int)) := fun h => hg189 (hlaw.2 h)
 iterate 2 refine qm ?_
 refine qc (K.nA cal_13 (fun F w hF hw => (by have hg := c13 (n := (i : Int)) (c := mb) (K.Rd.own hw (hF _ (K.m3)) hsb.2 (fun _ => rfl) (by decide)) (mem_len (m := m) (G := (grdS (reS (truN xs pts.length)) (Pn.fldS m i) false m.hs.length)) (s := s) hn2).2; rw [decide_eq_false hpc] at hg; exact hg))) ?_
 first | refine K.mA (K.Pure.eq (K.fC rfl) (show _ = Value.bool true from rfl)) rfl ?_ | refine K.mA (K.Pure.eq (K.not_ rfl) (show _ = Value.bool true from rfl)) rfl ?_
 refine zN ?_
 refine qp (K.dB rfl) ?_
 refine qp (K.sA rfl) ?_
 refine qm ?_
 refine qc (K.nA cal_6 (fun F w hF hw => c6 (hT.pass hw))) ?_
 refine qp (K.sA rfl) ?_
 refine qm ?_
 refine qc (K.nA cal_7 (fun F w hF hw => Pn.c25 (hTp.pass hw))) ?_
 refine qp (K.sA rfl) ?_
 refine qa ?_
 refine sn (K.ret (et ?_))
 exact K.gives rfl

end Go.Proofs.YtnhhfkgldoeifaaGreatDoor.Sh
end
