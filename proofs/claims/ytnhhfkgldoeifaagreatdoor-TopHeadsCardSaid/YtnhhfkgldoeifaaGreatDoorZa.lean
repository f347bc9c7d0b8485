/-
  Lemmas and walks of functions, joined and with only what the claim needs.
  Conditions stand in each theorem.
-/
import Derived.Test.YtnhhfkgldoeifaaGreatDoorProg
import Derived.Test.YtnhhfkgldoeifaaGreatDoorRows
import Derived.Below
import Derived.Laws.AppendOwn
import Derived.Laws.Rows
import Derived.Laws.Slices
import Derived.Tactics
import Derived.OrdersHeld
import Derived.KernelRfl
import Derived.WalkKit
import Derived.Deep.AppendLies
import Derived.IntWalk
import Derived.Scope
import Derived.WalkSpells
import Derived.DeepKeys
import Derived.Deep.Upon
import Derived.Laws.Small
import Derived.RangeFuncLeaves
import Derived.RangeFuncSeq
import Derived.OrdersIn
import Derived.Sort.LoopGhostIn
import Derived.TacticsIn
import Derived.RangeFuncOwn
import Derived.WideKeyMaps
import Derived.DeepKeys4
import Derived.Carry
import Derived.Laws.CopyRow
import Derived.WalkArith
import Derived.Laws.Closers25b
import Derived.ProofKit
import Derived.OpenShut
import Derived.LaidMore
import Derived.Lay
import Derived.Stop.Joined
import Derived.Lib.LaidTab
import Derived.Shelf.Strconv.Itoa3
import Derived.ChangeOld
import Derived.SizedLaws
import Derived.Deep.Slices
import Derived.Deep.Fields
import Derived.ChangeSame
import Derived.Lib.SmallJoins
import Derived.Laws.MakeOwn
import Derived.WideLaws
import Derived.Shelf.Small.Strs
import Derived.Shelf.Strings.OnBuilder
import Derived.Shelf.Strings.BuilderK
import Derived.Shelf.Strconv.Atoi
import Derived.Shelf.Strings.Prefix
import Derived.Shelf.Strings.Split
import Derived.Shelf.Strings.Search3
import Derived.Shelf.Slices.Turned
import Derived.Lib.FrozenHead
import Derived.Lib.OthersKept
import Derived.Laws.Concat
import Derived.Lib.AtoiErrMem
import Derived.Lib.ItoaNum
import Derived.Lib.Join
import Derived.RecoverIn
import Derived.Lib.IndexBytes
import Derived.Lib.Bytealg
import Derived.SevenTiedAt
set_option linter.unusedSimpArgs false
set_option linter.unusedVariables false
section
namespace Go.K
open Go.RowKit

structure Chunk where
 foot : Nat → Prop
 holds : World → Prop
 loc : ∀ w w', holds w → (∀ k, foot k → w'.heap[k]? = w.heap[k]?) → holds w'
 live : ∀ w k, holds w → foot k → k < w.heap.size

theorem lt_of_some {w : World} {g : Nat} {o : Obj} (h : w.heap[g]? = some o) : g < w.heap.size :=
 (Array.getElem?_eq_some_iff.1 h).1

def blk (g : Nat) (t : TypeId) (cs : List Value) : Chunk where
 foot := fun k => k = g
 holds := fun w => w.heap[g]? = some (.cells cs.toArray t (0, 0))
 loc := fun _ _ h hk => (hk g rfl).trans h
 live := fun _ k h hk => by subst hk; exact lt_of_some h

def row (v : Value) (e : TypeId) (size n : Nat) (xs : List Value) : Chunk where
 foot := fun k => v.ownBlock = some k
 holds := fun w => w.ownsRow 0 e size v n xs
 loc := fun w w' h hk => by
  refine ⟨h.1, ?_⟩
  rcases h.2 with hn | ⟨g, cap, cur, rfl, hb, hgg, rest⟩
  ·exact .inl hn
  ·exact .inr ⟨g, cap, cur, rfl, hb, (hk g rfl).trans hgg, rest⟩
 live := fun _ k h hk => (h.lt k hk).2

def Own (B : Nat) (L : List Chunk) (w : World) : Prop :=
 (∀ c ∈ L, c.holds w ∧ ∀ k, c.foot k → B ≤ k) ∧ L.Pairwise fun c d => ∀ k, c.foot k → ¬ d.foot k

def St (w0 : World) (L : List Chunk) (w : World) : Prop := Below w0.heap.size w0 w ∧ Own w0.heap.size L w

def Hold (w0 : World) (L : List Chunk) (G : World → Prop) : Prop := ∀ w, St w0 L w → G w

theorem St.start (w0 : World) : St w0 [] w0 := ⟨Below.refl _ _, by simp [Own]⟩

theorem St.sub {w0 w : World} {L L' : List Chunk} (h : St w0 L w) (hs : List.Sublist L' L) : St w0 L' w :=
 ⟨h.1, fun c hc => h.2.1 c (hs.subset hc), h.2.2.sublist hs⟩

theorem St.perm {w0 w : World} {L L' : List Chunk} (h : St w0 L w) (hp : L.Perm L') : St w0 L' w :=
 ⟨h.1, fun c hc => h.2.1 c (hp.mem_iff.2 hc), (hp.pairwise_iff (fun {_ _} h k hd hc => h k hc hd)).1 h.2.2⟩

theorem St.keep {w0 w w' : World} {L : List Chunk} (h : St w0 L w) (hb : Below w0.heap.size w w') (hk : ∀ c ∈ L, ∀ k, c.foot k → w'.heap[k]? = w.heap[k]?) : St w0 L w' :=
 ⟨h.1.trans hb, fun c hc => ⟨c.loc _ _ (h.2.1 c hc).1 (hk c hc), (h.2.1 c hc).2⟩, h.2.2⟩

theorem St.drew {w0 w : World} {L : List Chunk} (h : St w0 L w) : St w0 L w.drew :=
 h.keep (Below.refl _ _).drew (fun _ _ _ _ => rfl)

theorem St.lt {w0 w : World} {L : List Chunk} (h : St w0 L w) {c : Chunk} (hc : c ∈ L) {k : Nat} (hk : c.foot k) : k < w.heap.size :=
 c.live w k (h.2.1 c hc).1 hk

theorem St.add {w0 w w' : World} {L D : List Chunk} (h : St w0 L w) (hb : Below w.heap.size w w') (hD : Own w.heap.size D w') : St w0 (D ++ L) w' := by
 have hs := h.1.size
 refine ⟨h.1.trans (hb.mono hs), fun c hc => ?_, ?_⟩
 ·rcases List.mem_append.1 hc with hc | hc
  ·exact ⟨(hD.1 c hc).1, fun k hk => Nat.le_trans hs ((hD.1 c hc).2 k hk)⟩
  ·exact ⟨c.loc _ _ (h.2.1 c hc).1 (fun k hk => hb.block k (h.lt hc hk)), (h.2.1 c hc).2⟩
 ·refine List.pairwise_append.2 ⟨hD.2, h.2.2, fun c hc d hd k hk hk' => ?_⟩
  have h1 := (hD.1 c hc).2 k hk
  have h2 := h.lt hd hk'
  omega

theorem own_one {B : Nat} {c : Chunk} {w : World} (h : c.holds w) (hB : ∀ k, c.foot k → B ≤ k) : Own B [c] w :=
 ⟨fun d hd => by simp at hd; subst hd; exact ⟨h, hB⟩, by simp⟩

theorem own_nil {B : Nat} {w : World} : Own B [] w := ⟨by simp, by simp⟩

theorem St.new {w0 w : World} {L : List Chunk} (h : St w0 L w) (t : TypeId) (cs : List Value) : St w0 (blk w.heap.size t cs :: L) (w.alloc (.cells cs.toArray t)) :=
 h.add (D := [blk w.heap.size t cs]) ((Below.refl _ _).alloc (Nat.le_refl _) _) (own_one (heap_alloc_new w _) (fun k hk => by cases hk; exact Nat.le_refl _))

def Rep (c c' : Chunk) (L L' : List Chunk) : Prop := ∃ A B, L = A ++ c :: B ∧ L' = A ++ c' :: B
theorem Rep.here {c c' : Chunk} {L : List Chunk} : Rep c c' (c :: L) (c' :: L) := ⟨[], L, rfl, rfl⟩
theorem Rep.there {c c' d : Chunk} {L L' : List Chunk} (h : Rep c c' L L') : Rep c c' (d :: L) (d :: L') := by
 obtain ⟨A, B, rfl, rfl⟩ := h; exact ⟨d :: A, B, rfl, rfl⟩
theorem Rep.mem {c c' : Chunk} {L L' : List Chunk} (h : Rep c c' L L') : c ∈ L := by
 obtain ⟨A, B, rfl, rfl⟩ := h; simp

theorem tl {c a : Chunk} {L : List Chunk} (h : c ∈ L) : c ∈ a :: L := List.Mem.tail _ h
theorem m0 {c : Chunk} {L : List Chunk} : c ∈ c :: L := List.Mem.head _
theorem rp0 {c c' : Chunk} {L : List Chunk} : Rep c c' (c :: L) (c' :: L) := Rep.here
theorem m1 {a0 c : Chunk} {L : List Chunk} : c ∈ a0 :: c :: L := tl m0
theorem rp1 {a0 c c' : Chunk} {L : List Chunk} : Rep c c' (a0 :: c :: L) (a0 :: c' :: L) := Rep.there rp0
theorem m2 {a0 a1 c : Chunk} {L : List Chunk} : c ∈ a0 :: a1 :: c :: L := tl m1
theorem rp2 {a0 a1 c c' : Chunk} {L : List Chunk} : Rep c c' (a0 :: a1 :: c :: L) (a0 :: a1 :: c' :: L) := Rep.there rp1
theorem m3 {a0 a1 a2 c : Chunk} {L : List Chunk} : c ∈ a0 :: a1 :: a2 :: c :: L := tl m2
theorem rp3 {a0 a1 a2 c c' : Chunk} {L : List Chunk} : Rep c c' (a0 :: a1 :: a2 :: c :: L) (a0 :: a1 :: a2 :: c' :: L) := Rep.there rp2
theorem m4 {a0 a1 a2 a3 c : Chunk} {L : List Chunk} : c ∈ a0 :: a1 :: a2 :: a3 :: c :: L := tl m3
theorem rp4 {a0 a1 a2 a3 c c' : Chunk} {L : List Chunk} : Rep c c' (a0 :: a1 :: a2 :: a3 :: c :: L) (a0 :: a1 :: a2 :: a3 :: c' :: L) := Rep.there rp3
theorem m5 {a0 a1 a2 a3 a4 c : Chunk} {L : List Chunk} : c ∈ a0 :: a1 :: a2 :: a3 :: a4 :: c :: L := tl m4
theorem rp5 {a0 a1 a2 a3 a4 c c' : Chunk} {L : List Chunk} : Rep c c' (a0 :: a1 :: a2 :: a3 :: a4 :: c :: L) (a0 :: a1 :: a2 :: a3 :: a4 :: c' :: L) := Rep.there rp4
theorem m6 {a0 a1 a2 a3 a4 a5 c : Chunk} {L : List Chunk} : c ∈ a0 :: a1 :: a2 :: a3 :: a4 :: a5 :: c :: L := tl m5
theorem rp6 {a0 a1 a2 a3 a4 a5 c c' : Chunk} {L : List Chunk} : Rep c c' (a0 :: a1 :: a2 :: a3 :: a4 :: a5 :: c :: L) (a0 :: a1 :: a2 :: a3 :: a4 :: a5 :: c' :: L) := Rep.there rp5
theorem m7 {a0 a1 a2 a3 a4 a5 a6 c : Chunk} {L : List Chunk} : c ∈ a0 :: a1 :: a2 :: a3 :: a4 :: a5 :: a6 :: c :: L := tl m6
theorem rp7 {a0 a1 a2 a3 a4 a5 a6 c c' : Chunk} {L : List Chunk} : Rep c c' (a0 :: a1 :: a2 :: a3 :: a4 :: a5 :: a6 :: c :: L) (a0 :: a1 :: a2 :: a3 :: a4 :: a5 :: a6 :: c' :: L) := Rep.there rp6
theorem m8 {a0 a1 a2 a3 a4 a5 a6 a7 c : Chunk} {L : List Chunk} : c ∈ a0 :: a1 :: a2 :: a3 :: a4 :: a5 :: a6 :: a7 :: c :: L := tl m7
theorem rp8 {a0 a1 a2 a3 a4 a5 a6 a7 c c' : Chunk} {L : List Chunk} : Rep c c' (a0 :: a1 :: a2 :: a3 :: a4 :: a5 :: a6 :: a7 :: c :: L) (a0 :: a1 :: a2 :: a3 :: a4 :: a5 :: a6 :: a7 :: c' :: L) := Rep.there rp7
theorem m9 {a0 a1 a2 a3 a4 a5 a6 a7 a8 c : Chunk} {L : List Chunk} : c ∈ a0 :: a1 :: a2 :: a3 :: a4 :: a5 :: a6 :: a7 :: a8 :: c :: L := tl m8
theorem rp9 {a0 a1 a2 a3 a4 a5 a6 a7 a8 c c' : Chunk} {L : List Chunk} : Rep c c' (a0 :: a1 :: a2 :: a3 :: a4 :: a5 :: a6 :: a7 :: a8 :: c :: L) (a0 :: a1 :: a2 :: a3 :: a4 :: a5 :: a6 :: a7 :: a8 :: c' :: L) := Rep.there rp8
theorem m10 {a0 a1 a2 a3 a4 a5 a6 a7 a8 a9 c : Chunk} {L : List Chunk} : c ∈ a0 :: a1 :: a2 :: a3 :: a4 :: a5 :: a6 :: a7 :: a8 :: a9 :: c :: L := tl m9
theorem rp10 {a0 a1 a2 a3 a4 a5 a6 a7 a8 a9 c c' : Chunk} {L : List Chunk} : Rep c c' (a0 :: a1 :: a2 :: a3 :: a4 :: a5 :: a6 :: a7 :: a8 :: a9 :: c :: L) (a0 :: a1 :: a2 :: a3 :: a4 :: a5 :: a6 :: a7 :: a8 :: a9 :: c' :: L) := Rep.there rp9
theorem m11 {a0 a1 a2 a3 a4 a5 a6 a7 a8 a9 a10 c : Chunk} {L : List Chunk} : c ∈ a0 :: a1 :: a2 :: a3 :: a4 :: a5 :: a6 :: a7 :: a8 :: a9 :: a10 :: c :: L := tl m10
theorem m12 {a0 a1 a2 a3 a4 a5 a6 a7 a8 a9 a10 a11 c : Chunk} {L : List Chunk} : c ∈ a0 :: a1 :: a2 :: a3 :: a4 :: a5 :: a6 :: a7 :: a8 :: a9 :: a10 :: a11 :: c :: L := tl m11
theorem m13 {a0 a1 a2 a3 a4 a5 a6 a7 a8 a9 a10 a11 a12 c : Chunk} {L : List Chunk} : c ∈ a0 :: a1 :: a2 :: a3 :: a4 :: a5 :: a6 :: a7 :: a8 :: a9 :: a10 :: a11 :: a12 :: c :: L := tl m12
theorem m14 {a0 a1 a2 a3 a4 a5 a6 a7 a8 a9 a10 a11 a12 a13 c : Chunk} {L : List Chunk} : c ∈ a0 :: a1 :: a2 :: a3 :: a4 :: a5 :: a6 :: a7 :: a8 :: a9 :: a10 :: a11 :: a12 :: a13 :: c :: L := tl m13
theorem m15 {a0 a1 a2 a3 a4 a5 a6 a7 a8 a9 a10 a11 a12 a13 a14 c : Chunk} {L : List Chunk} : c ∈ a0 :: a1 :: a2 :: a3 :: a4 :: a5 :: a6 :: a7 :: a8 :: a9 :: a10 :: a11 :: a12 :: a13 :: a14 :: c :: L := tl m14
theorem m16 {a0 a1 a2 a3 a4 a5 a6 a7 a8 a9 a10 a11 a12 a13 a14 a15 c : Chunk} {L : List Chunk} : c ∈ a0 :: a1 :: a2 :: a3 :: a4 :: a5 :: a6 :: a7 :: a8 :: a9 :: a10 :: a11 :: a12 :: a13 :: a14 :: a15 :: c :: L := tl m15
theorem m17 {a0 a1 a2 a3 a4 a5 a6 a7 a8 a9 a10 a11 a12 a13 a14 a15 a16 c : Chunk} {L : List Chunk} : c ∈ a0 :: a1 :: a2 :: a3 :: a4 :: a5 :: a6 :: a7 :: a8 :: a9 :: a10 :: a11 :: a12 :: a13 :: a14 :: a15 :: a16 :: c :: L := tl m16
theorem m18 {a0 a1 a2 a3 a4 a5 a6 a7 a8 a9 a10 a11 a12 a13 a14 a15 a16 a17 c : Chunk} {L : List Chunk} : c ∈ a0 :: a1 :: a2 :: a3 :: a4 :: a5 :: a6 :: a7 :: a8 :: a9 :: a10 :: a11 :: a12 :: a13 :: a14 :: a15 :: a16 :: a17 :: c :: L := tl m17
theorem m19 {a0 a1 a2 a3 a4 a5 a6 a7 a8 a9 a10 a11 a12 a13 a14 a15 a16 a17 a18 c : Chunk} {L : List Chunk} : c ∈ a0 :: a1 :: a2 :: a3 :: a4 :: a5 :: a6 :: a7 :: a8 :: a9 :: a10 :: a11 :: a12 :: a13 :: a14 :: a15 :: a16 :: a17 :: a18 :: c :: L := tl m18
theorem St.upd {w0 w w' : World} {L L' : List Chunk} {c c' : Chunk} {row : Option Nat} (h : St w0 L w) (hr : Rep c c' L L') (hg : w.grownBy w' row) (hrow : ∀ k, row = some k → c.foot k)
  (hc' : c'.holds w') (hf : ∀ k, c'.foot k → c.foot k ∨ w.heap.size ≤ k) : St w0 L' w' := by
 have hs := h.1.size
 have hcm : c ∈ L := hr.mem
 obtain ⟨A, B, rfl, rfl⟩ := hr
 have hcB := (h.2.1 c hcm).2
 have hbel : Below w0.heap.size w w' := ⟨hg.os, hg.tape, hg.output, hg.size, fun k hk => hg.block k (by omega) (fun e => by
  have := hcB k (hrow k e.symm); omega)⟩
 have hp := h.2.2
 have hpA := List.pairwise_append.1 hp
 have hpc := List.pairwise_cons.1 hpA.2.1
 have other : ∀ d, d ∈ A ∨ d ∈ B → ∀ k, d.foot k → w'.heap[k]? = w.heap[k]? := fun d hd k hk => by
  have hm : d ∈ A ++ c :: B := by rcases hd with hd | hd <;> simp [hd]
  refine hg.block k (h.lt hm hk) (fun e => ?_)
  have hck := hrow k e.symm
  rcases hd with hd | hd
  ·exact hpA.2.2 d hd c (by simp) k hk hck
  ·exact hpc.1 d hd k hck hk
 refine ⟨h.1.trans hbel, fun d hd => ?_, ?_⟩
 ·rcases List.mem_append.1 hd with hd | hd
  ·exact ⟨d.loc _ _ (h.2.1 d (by simp [hd])).1 (other d (.inl hd)), (h.2.1 d (by simp [hd])).2⟩
  ·rcases List.mem_cons.1 hd with rfl | hd
   ·exact ⟨hc', fun k hk => by
     rcases hf k hk with h1 | h1
     ·exact hcB k h1
     ·omega⟩
   ·exact ⟨d.loc _ _ (h.2.1 d (by simp [hd])).1 (other d (.inr hd)), (h.2.1 d (by simp [hd])).2⟩
 ·refine List.pairwise_append.2 ⟨hpA.1, List.pairwise_cons.2 ⟨fun d hd k hk hk' => ?_, hpc.2⟩, fun d hd e he k hk hk' => ?_⟩
  ·rcases hf k hk with h1 | h1
   ·exact hpc.1 d hd k h1 hk'
   ·have := h.lt (c := d) (by simp [hd]) hk'; omega
  ·rcases List.mem_cons.1 he with rfl | he
   ·rcases hf k hk' with h1 | h1
    ·exact hpA.2.2 d hd c (by simp) k hk h1
    ·have := h.lt (c := d) (by simp [hd]) hk; omega
   ·exact hpA.2.2 d hd e (by simp [he]) k hk hk'



theorem blk_cell {w : World} {g : Nat} {t : TypeId} {cs : List Value} (h : (blk g t cs).holds w) (i : Nat) : w.cell? ⟨g, i, none⟩ = cs[i]? := by
 have h' : w.heap[g]? = some (.cells cs.toArray t (0, 0)) := h
 simp [cell_of_row w g i _ t _ h']


def nth : List Value → Nat → Value
 | [], _ => undef
 | v :: _, 0 => v
 | _ :: l, n + 1 => nth l n
def setn : List Value → Nat → Value → List Value
 | [], _, _ => []
 | _ :: l, 0, u => u :: l
 | v :: l, n + 1, u => v :: setn l n u
def setd (l : List Value) : Option Tmp → Value → List Value
 | some d, v => setn l d v
 | none, _ => l
def fr (l : List Value) : Act := { tmps := l.toArray, defers := [] }
def ev (l : List Value) : Operand → Value
 | .tmp t => nth l t
 | .const v => v
 | .global g => .pointer (some ⟨g, 0, none⟩)
 | .func f => .func (.func f) #[] #[]
theorem mC (l : List Value) : ∀ n, nth l n = l.toArray.getD n undef := by
 induction l with
 | nil => intro n; simp [nth]
 | cons v l ih => intro n; cases n <;> simp_all [nth]
theorem setn_eq (l : List Value) : ∀ n u, setn l n u = l.set n u := by
 induction l with
 | nil => intro n u; rfl
 | cons v l ih => intro n u; cases n <;> simp_all [setn]
theorem fr_eval (l : List Value) : (fr l).eval = ev l := by
 funext x
 cases x <;> simp [Act.eval, fr, ev, mC]
theorem fr_put (l : List Value) (d : Option Tmp) (v : Value) : (fr l).put d v = fr (setd l d v) := by
 cases d <;> simp [Act.put, fr, setd, setn_eq]

def Pure (P : Program) (o : Oper) (l : List Value) (v : Value) : Prop := ∀ w, (execOp (ev l) o).run P w = .ok (.value v) w
def Sil (P : Program) (w0 : World) (L : List Chunk) (o : Oper) (l : List Value) (v : Value) : Prop :=
 ∀ F w, (∀ c ∈ L, c ∈ F) → St w0 F w → (execOp (ev l) o).run P w = .ok (.value v) w
def OpT (P : Program) (o : Oper) (l : List Value) (w : World) (R : Value → World → Prop) : Prop :=
 ∀ (K : Act → World → Prop) (Q : Exit → Act → World → Prop), (∀ v w', R v w' → K (fr (setd l o.dst v)) w') → o.wp P (fr l) w K Q

theorem OpT.of_run {P : Program} {o : Oper} {l : List Value} {w w' : World} {v : Value} {R : Value → World → Prop} (h : (execOp (ev l) o).run P w = .ok (.value v) w') (hR : R v w') : OpT P o l w R := by
 intro K Q hK
 unfold Oper.wp
 rw [fr_eval, h, Oper.upon_value, fr_put]
 exact hK _ _ hR
theorem OpT.of_skip {P : Program} {o : Oper} {l : List Value} {w w' : World} {R : Value → World → Prop} (h : (execOp (ev l) o).run P w = .ok .skip w') (hR : R undef w') : OpT P o l w R := by
 intro K Q hK
 unfold Oper.wp
 rw [fr_eval, h, Oper.upon_skip, fr_put]
 exact hK _ _ hR
theorem OpT.of_enter {P : Program} {o : Oper} {l : List Value} {w w' : World} {f : FuncId} {args : Array Value} {R : Value → World → Prop} (h : (execOp (ev l) o).run P w = .ok (.enter f args) w')
  (hc : Calls P f args w' fun e w'' => ∃ v, e = .returned v ∧ R v w'') : OpT P o l w R := by
 intro K Q hK
 unfold Oper.wp
 rw [fr_eval, h, Oper.upon_enter]
 refine hc.mono ?_
 rintro e w'' ⟨v, rfl, hR⟩
 show K ((fr l).put o.dst v) w''
 rw [fr_put]
 exact hK _ _ hR

def Loud {ρ : Type} (P : Program) (w0 : World) (L : List Chunk) (o : Oper) (l : List Value) (ok : ρ → Prop) (val : ρ → Value) (D : ρ → List Chunk) : Prop :=
 ∀ F w, (∀ c ∈ L, c ∈ F) → St w0 F w → OpT P o l w fun v w' => ∃ r, ok r ∧ v = val r ∧ St w0 (D r ++ F) w'
def Upd {ρ : Type} (P : Program) (w0 : World) (L : List Chunk) (o : Oper) (l : List Value) (ok : ρ → Prop) (val : ρ → Value) (L' : ρ → List Chunk) : Prop :=
 ∀ w, St w0 L w → OpT P o l w fun v w' => ∃ r, ok r ∧ v = val r ∧ St w0 (L' r) w'

def nthD : List Oper → Nat → Option Tmp
 | [], _ => none
 | o :: _, 0 => o.dst
 | _ :: l, n + 1 => nthD l n
def nthP : List Oper → Nat → Option Oper
 | [], _ => none
 | o :: _, 0 => some o
 | _ :: l, n + 1 => nthP l n
def wantL (ops : List Oper) (l : List Value) : Option (Nat × Bool) → Bool
 | none => true
 | some (j, b) => match nthD ops j with
  | some t => match nth l t with
   | .bool c => c == b
   | _ => false
  | none => false
theorem nthD_eq : ∀ (ops : List Oper) j, (ops[j]?).bind (·.dst) = nthD ops j
 | [], _ => by simp [nthD]
 | o :: l, 0 => by simp [nthD]
 | o :: l, n + 1 => by simpa [nthD] using nthD_eq l n
theorem nthP_eq : ∀ (ops : List Oper) j, ops[j]? = nthP ops j
 | [], _ => by simp [nthP]
 | o :: l, 0 => by simp [nthP]
 | o :: l, n + 1 => by simpa [nthP] using nthP_eq l n
theorem wanted_eq (ops : Array Oper) (l : List Value) (o : Oper) : Region.wanted o (yielded ops (fr l).tmps) = wantL ops.toList l o.guard := by
 unfold Region.wanted wantL
 cases o.guard with
 | none => rfl
 | some jb =>
  obtain ⟨j, b⟩ := jb
  simp only [yielded, ← nthD_eq, Array.getElem?_toList]
  cases h : (ops[j]?).bind (·.dst) with
  | none => simp
  | some t =>
   have e : (fr l).tmps[t]? = l[t]? := by simp [fr]
   simp only [Option.bind_some, e]
   have e2 : nth l t = (l[t]?).getD undef := by rw [mC]; simp
   rw [e2]
   cases hl : l[t]? with
   | none => simp [undef]
   | some v => cases v <;> simp

section
variable {P : Program} {w0 : World} {L : List Chunk} {ops : Array Oper} {Q : Exit → Act → World → Prop} {rest : List Oper} {l : List Value} {o : Oper} {v : Value} {id : Nat}

theorem region (k : Hold w0 L (wpList P ops Q ops.toList (fr l))) : Hold w0 L ((Code.region id ops false).wp P Q (fr l)) :=
 fun w hw => wp_region_list (k w hw)
theorem gA {lo : List Oper} (k : Hold w0 L (wpList P lo.toArray Q lo (fr l))) : Hold w0 L ((Code.region id lo.toArray false).wp P Q (fr l)) :=
 fun w hw => wp_region_lit (k w hw)
theorem lA (k : Hold w0 L (Q .normal (fr l))) : Hold w0 L (wpList P ops Q [] (fr l)) := k
theorem seq_skip (hg : wantL ops.toList l o.guard = false) (k : Hold w0 L (wpList P ops Q rest (fr (setd l o.dst undef)))) : Hold w0 L (wpList P ops Q (o :: rest) (fr l)) := by
 intro w hw
 unfold wpList
 rw [if_neg (by rw [wanted_eq, hg]; simp), fr_put]
 exact k w hw
theorem seq_op {R : World → Value → World → Prop} (hg : wantL ops.toList l o.guard = true) (h : ∀ w, St w0 L w → OpT P o l w (R w))
  (k : ∀ w, St w0 L w → ∀ v w', R w v w' → wpList P ops Q rest (fr (setd l o.dst v)) w') : Hold w0 L (wpList P ops Q (o :: rest) (fr l)) := by
 intro w hw
 unfold wpList
 rw [if_pos (by rw [wanted_eq]; exact hg)]
 exact .inl (h w hw _ _ (k w hw))
theorem mA (h : Pure P o l v) (hg : wantL ops.toList l o.guard = true) (k : Hold w0 L (wpList P ops Q rest (fr (setd l o.dst v)))) : Hold w0 L (wpList P ops Q (o :: rest) (fr l)) :=
 seq_op (R := fun w v' w' => v' = v ∧ w' = w) hg (fun w _ => OpT.of_run (h w) ⟨rfl, rfl⟩) (fun w hw _ _ ⟨hv, hw'⟩ => by subst hv; subst hw'; exact k _ hw)
theorem seq_sil (h : Sil P w0 L o l v) (hg : wantL ops.toList l o.guard = true) (k : Hold w0 L (wpList P ops Q rest (fr (setd l o.dst v)))) : Hold w0 L (wpList P ops Q (o :: rest) (fr l)) :=
 seq_op (R := fun w v' w' => v' = v ∧ w' = w) hg (fun w hw => OpT.of_run (h L w (fun _ h => h) hw) ⟨rfl, rfl⟩) (fun w hw _ _ ⟨hv, hw'⟩ => by subst hv; subst hw'; exact k _ hw)
theorem gB {ρ : Type} {ok : ρ → Prop} {val : ρ → Value} {D : ρ → List Chunk} (h : Loud P w0 L o l ok val D) (hg : wantL ops.toList l o.guard = true)
  (k : ∀ r, ok r → Hold w0 (D r ++ L) (wpList P ops Q rest (fr (setd l o.dst (val r))))) : Hold w0 L (wpList P ops Q (o :: rest) (fr l)) :=
 seq_op hg (fun w hw => h L w (fun _ h => h) hw) (fun _ _ v w' ⟨r, hr, hv, hst⟩ => by subst hv; exact k r hr w' hst)
theorem xB {ρ : Type} {ok : ρ → Prop} {val : ρ → Value} {L' : ρ → List Chunk} (h : Upd P w0 L o l ok val L') (hg : wantL ops.toList l o.guard = true)
  (k : ∀ r, ok r → Hold w0 (L' r) (wpList P ops Q rest (fr (setd l o.dst (val r))))) : Hold w0 L (wpList P ops Q (o :: rest) (fr l)) :=
 seq_op hg (fun w hw => h w hw) (fun _ _ v w' ⟨r, hr, hv, hst⟩ => by subst hv; exact k r hr w' hst)
end

section
variable {P : Program} {w0 : World} {L : List Chunk} {Q : Exit → Act → World → Prop} {l : List Value} {x y : Code} {id n : Nat} {c : Operand} {b : Bool}
theorem seq (k : Hold w0 L (x.wp P (Exit.then (y.wp P Q) Q) (fr l))) : Hold w0 L ((Code.seq x y).wp P Q (fr l)) := fun w hw => wp_seq (k w hw)
theorem skip (k : Hold w0 L (Q .normal (fr l))) : Hold w0 L (Code.skip.wp P Q (fr l)) := fun w hw => wp_skip (k w hw)
theorem label (k : Hold w0 L (Q .normal (fr l))) : Hold w0 L ((Code.label n).wp P Q (fr l)) := fun w hw => wp_label (k w hw)
theorem exit (k : Hold w0 L (Q (.exit id) (fr l))) : Hold w0 L ((Code.exit id).wp P Q (fr l)) := fun w hw => wp_exit (k w hw)
theorem ret (k : Hold w0 L (Q .ret (fr l))) : Hold w0 L (Code.ret.wp P Q (fr l)) := fun w hw => wp_ret (k w hw)
theorem block (k : Hold w0 L (x.wp P (Exit.inBlock id Q) (fr l))) : Hold w0 L ((Code.block id x).wp P Q (fr l)) := fun w hw => wp_block (k w hw)
theorem cond (hc : ev l c = .bool b) (kt : b = true → Hold w0 L (x.wp P Q (fr l))) (kf : b = false → Hold w0 L (y.wp P Q (fr l))) : Hold w0 L ((Code.cond c x y).wp P Q (fr l)) :=
 fun w hw => wp_cond_split (t := b) (by rw [fr_eval]; exact hc) (fun h => kt h w hw) (fun h => kf h w hw)
theorem yA (hc : ev l c = .bool true) (kt : Hold w0 L (x.wp P Q (fr l))) : Hold w0 L ((Code.cond c x y).wp P Q (fr l)) :=
 cond hc (fun _ => kt) (fun h => by cases h)
theorem oA (hc : ev l c = .bool false) (kf : Hold w0 L (y.wp P Q (fr l))) : Hold w0 L ((Code.cond c x y).wp P Q (fr l)) :=
 cond hc (fun h => by cases h) (fun _ => kf)
theorem loop (I : List Value → List Chunk → Prop) (μ : List Value → Nat) (h0 : I l L)
  (round : ∀ l L, I l L → Hold w0 L (x.wp P (Exit.then (fun a w => ∃ l' L', a = fr l' ∧ I l' L' ∧ μ l' < μ l ∧ St w0 L' w) Q) (fr l))) :
  Hold w0 L ((Code.loop x).wp P Q (fr l)) := by
 intro w hw
 refine wp_loop (fun a w => ∃ l L, a = fr l ∧ I l L ∧ St w0 L w) (fun a _ => μ a.tmps.toList) ⟨l, L, rfl, h0, hw⟩ ?_
 rintro a w ⟨l, L, rfl, hI, hst⟩
 refine wp_mono (round l L hI w hst) (fun e a' w' hq => ?_)
 cases e with
 | normal =>
  obtain ⟨l', L', rfl, hI', hlt, hst'⟩ := hq
  exact ⟨⟨l', L', rfl, hI', hst'⟩, by simpa [fr] using hlt⟩
 | _ => exact hq
end

def Ret {ρ : Type} (ok : ρ → Prop) (val : ρ → Value) (D : ρ → List Chunk) (w : World) : Ending → World → Prop :=
 fun e w' => ∃ r, ok r ∧ e = .returned (val r) ∧ St w (D r) w'
def Gives (v : Value) (w : World) : Ending → World → Prop := fun e w' => e = .returned v ∧ Below w.heap.size w w'

theorem enter {P : Program} {f : FuncId} {fn : Func} {c : Code} {args : List Value} {n : Nat} {w : World} {R : Ending → World → Prop} (hf : P.funcs[f]? = some fn) (hb : fn.body = some c) (hn : fn.ntmps - args.length = n)
  (k : Hold w [] (c.wp P (bodyPost P fn R) (fr (args ++ List.replicate n undef)))) : Calls P f args.toArray w R := by
 refine calls_of_wp hf hb ?_
 have h1 := k w (St.start w)
 subst hn
 have e : args.toArray ++ Array.replicate (fn.ntmps - args.toArray.size) undef = (args ++ List.replicate (fn.ntmps - args.length) undef).toArray := by
  apply Array.toList_inj.1; simp
 rw [e]
 exact h1
theorem wA {P : Program} {fn : Func} {R : Ending → World → Prop} {w0 : World} {L : List Chunk} {l : List Value} {v : Value}
  (hr : ∀ w, St w0 L w → (results fn l.toArray).run P w = .ok v w) (k : Hold w0 L (R (.returned v))) : Hold w0 L (bodyPost P fn R .ret (fr l)) :=
 fun w hw => ⟨rfl, v, hr w hw, k w hw⟩
theorem end_normal {P : Program} {fn : Func} {R : Ending → World → Prop} {w0 : World} {L : List Chunk} {l : List Value} {v : Value}
  (hr : ∀ w, St w0 L w → (results fn l.toArray).run P w = .ok v w) (k : Hold w0 L (R (.returned v))) : Hold w0 L (bodyPost P fn R .normal (fr l)) :=
 fun w hw => ⟨rfl, v, hr w hw, k w hw⟩
theorem rB {P : Program} {fn : Func} {l : List Value} (h : fn.results = #[]) (w : World) : (results fn l.toArray).run P w = .ok (.tuple #[]) w := results_none h _ _ _
theorem res_tmp {P : Program} {fn : Func} {l : List Value} {t : Tmp} (h : fn.results = #[.tmp t]) (w : World) : (results fn l.toArray).run P w = .ok (nth l t) w := by
 rw [results_tmp h, mC]
theorem qB {P : Program} {fn : Func} {l : List Value} {t u : Tmp} (h : fn.results = #[.tmp t, .tmp u]) (w : World) : (results fn l.toArray).run P w = .ok (.tuple #[nth l t, nth l u]) w := by
 rw [results_tmp2 h, mC, mC]
theorem gives {w : World} {L : List Chunk} {v v' : Value} (h : v = v') : Hold w L (Gives v' w (.returned v)) := fun _ hw => ⟨by rw [h], hw.1⟩
theorem rets {ρ : Type} {ok : ρ → Prop} {val : ρ → Value} {D : ρ → List Chunk} {w : World} {L : List Chunk} {v : Value} (r : ρ) (hok : ok r) (hv : v = val r) (hD : List.Sublist (D r) L) : Hold w L (Ret ok val D w (.returned v)) :=
 fun _ hw => ⟨r, hok, by rw [hv], hw.sub hD⟩

end Go.K

namespace Go.K
open Go.RowKit

def fo (P : Program) (s f : Nat) : Option Nat :=
 match P.underlying s with
 | some (.struct fs) => match fs[f]? with
  | some x => match P.info? x.type with
   | some i => if i.size = 0 then none else some x.offset
   | none => none
  | none => none
 | _ => none
def sl (P : Program) (t : TypeId) : Option (TypeId × Nat) :=
 match P.underlying t with
 | some (.slice e) => match P.info? e with
  | some i => some (e, i.size)
  | none => none
 | _ => none
def ar (P : Program) (t : TypeId) : Option (Nat × TypeId × Nat) :=
 match P.underlying t with
 | some (.array n e) => match P.info? e with
  | some i => some (n, e, i.size)
  | none => none
 | _ => none
def one (P : Program) (t : TypeId) : Bool :=
 match P.underlying t with
 | some (.struct _) | some (.array ..) | none => false
 | some _ => (P.info? t).any (·.size == 1)
def ag (P : Program) (t : TypeId) : Option Nat :=
 match P.underlying t with
 | some (.struct _) | some (.array ..) => (P.info? t).map (·.size)
 | _ => none
def zr (P : Program) (t : TypeId) : Option Value := (P.info? t).bind (·.zero)
def callable (P : Program) (f : FuncId) : Bool :=
 match P.funcs[f]? with
 | some fn => !(fn.name == "runtime.NumGoroutine") && fn.body.isSome
 | none => false

section
variable {P : Program}
theorem fo_spec {s f off : Nat} (h : fo P s f = some off) : ∃ fs x i, P.underlying s = some (.struct fs) ∧ fs[f]? = some x ∧ P.info? x.type = some i ∧ i.size ≠ 0 ∧ x.offset = off := by
 unfold fo at h
 split at h
 ·rename_i fs hs
  split at h
  ·rename_i x hx
   split at h
   ·rename_i i hi
    split at h
    ·cases h
    ·rename_i h0
     exact ⟨fs, x, i, hs, hx, hi, h0, by simpa using h⟩
   ·cases h
  ·cases h
 ·cases h
theorem sl_spec {t e n : Nat} (h : sl P t = some (e, n)) : ∃ i, P.underlying t = some (.slice e) ∧ P.info? e = some i ∧ i.size = n := by
 unfold sl at h
 split at h
 ·rename_i e' hs
  split at h
  ·rename_i i hi
   simp only [Option.some.injEq, Prod.mk.injEq] at h
   obtain ⟨rfl, rfl⟩ := h
   exact ⟨i, hs, hi, rfl⟩
  ·cases h
 ·cases h
theorem ar_spec {t m e n : Nat} (h : ar P t = some (m, e, n)) : ∃ i, P.underlying t = some (.array m e) ∧ P.info? e = some i ∧ i.size = n := by
 unfold ar at h
 split at h
 ·rename_i m' e' hs
  split at h
  ·rename_i i hi
   simp only [Option.some.injEq, Prod.mk.injEq] at h
   obtain ⟨rfl, rfl, rfl⟩ := h
   exact ⟨i, hs, hi, rfl⟩
  ·cases h
 ·cases h
theorem run_isAgg_one {t : TypeId} (h : one P t = true) (w : World) : (isAgg t).run P w = .ok false w ∧ ∃ i, P.info? t = some i ∧ i.size = 1 := by
 unfold one at h
 split at h
 ·cases h
 ·cases h
 ·cases h
 ·rename_i d h1 h2 hd
  refine ⟨?_, ?_⟩
  ·unfold isAgg
   rw [Sem.run_bind, run_underlying hd w]
   cases d <;> first | rfl | (exfalso; exact h1 _ rfl) | (exfalso; exact h2 _ _ rfl)
  ·cases hi : P.info? t with
   | none => simp [hi] at h
   | some i => exact ⟨i, rfl, by simpa [hi] using h⟩
theorem run_isAgg_ag {t n : Nat} (h : ag P t = some n) (w : World) : (isAgg t).run P w = .ok true w ∧ ∃ i, P.info? t = some i ∧ i.size = n := by
 unfold ag at h
 split at h
 ·rename_i fs hd
  refine ⟨by unfold isAgg; rw [Sem.run_bind, run_underlying hd w]; rfl, ?_⟩
  cases hi : P.info? t with
  | none => simp [hi] at h
  | some i => exact ⟨i, rfl, by simpa [hi] using h⟩
 ·rename_i m e hd
  refine ⟨by unfold isAgg; rw [Sem.run_bind, run_underlying hd w]; rfl, ?_⟩
  cases hi : P.info? t with
  | none => simp [hi] at h
  | some i => exact ⟨i, rfl, by simpa [hi] using h⟩
 ·cases h
theorem zr_spec {t : TypeId} {z : Value} (h : zr P t = some z) (w : World) : (zeroValue t).run P w = .ok z w := by
 unfold zr at h
 cases hi : P.info? t with
 | none => simp [hi] at h
 | some i =>
  have hz : i.zero = some z := by simpa [hi] using h
  simp [zeroValue, typeInfo, hi, hz]
end

section
variable {P : Program} {l : List Value} {d : Option Tmp} {ty : TypeId} {ps : String} {af : Array Edge} {g : Option (Nat × Bool)}
theorem move {x : Operand} : Pure P ⟨d, .move x, ty, ps, af, g⟩ l (ev l x) := fun _ => rfl
theorem assign {x : Operand} : Pure P ⟨d, .assign x, ty, ps, af, g⟩ l (ev l x) := fun _ => rfl
theorem pick {c x y : Operand} {t : Bool} (hc : ev l c = .bool t) : Pure P ⟨d, .pick c x y, ty, ps, af, g⟩ l (if t then ev l x else ev l y) := fun w => by
 simp [execOp, hc, asBool]
theorem sA {c x y : Operand} (hc : ev l c = .bool true) : Pure P ⟨d, .pick c x y, ty, ps, af, g⟩ l (ev l x) := pick hc
theorem dB {c x y : Operand} (hc : ev l c = .bool false) : Pure P ⟨d, .pick c x y, ty, ps, af, g⟩ l (ev l y) := pick hc
theorem extract {x : Operand} {i : Nat} {vs : List Value} (hx : ev l x = .tuple vs.toArray) (hi' : Nat.blt i vs.length = true) : Pure P ⟨d, .extract x i, ty, ps, af, g⟩ l (nth vs i) := fun w => by
 have hi : i < vs.length := by simpa using hi'
 have : vs[i]? = some (nth vs i) := by rw [mC]; simp [hi]
 simp [execOp, hx, Instr.extract, this]
theorem add_lit (b i off : Nat) : (⟨b, i, none⟩ : Addr).add off = ⟨b, i + off, none⟩ := by
 unfold Addr.add; split <;> simp_all
theorem run_fieldAt {s f off : Nat} (h : fo P s f = some off) (a : Addr) (w : World) : (Instr.fieldAt s (.pointer (some a)) f).run P w = .ok (.pointer (some (a.add off))) w := by
 obtain ⟨fs, x, i, hs, hx, hi, h0, rfl⟩ := fo_spec h
 simp [Instr.fieldAt, Sem.run_bind, run_underlying hs w, hx, Instr.sureAddr, fieldPlace, sizeOf, typeInfo, hi, h0]
theorem fieldAddr {s f off : Nat} {x : Operand} {a : Addr} (h : fo P s f = some off) (hx : ev l x = .pointer (some a)) : Pure P ⟨d, .fieldAddr s x f, ty, ps, af, g⟩ l (.pointer (some (a.add off))) := fun w => by
 simp [execOp, hx, run_fieldAt h]
theorem aA {s f off : Nat} {x : Operand} {b i : Nat} (h : fo P s f = some off) (hx : ev l x = .pointer (some ⟨b, i, none⟩)) : Pure P ⟨d, .fieldAddr s x f, ty, ps, af, g⟩ l (.pointer (some ⟨b, i + off, none⟩)) := by
 rw [← add_lit]; exact fieldAddr h hx
theorem indexAddr_sl {t e n : Nat} {x y : Operand} {a : Addr} {len cap : Nat} {k : IntKind} {z : Int} (h : sl P t = some (e, n)) (hx : ev l x = .slice (some a) len cap) (hy : ev l y = .int k z) (h0 : 0 ≤ z) (h1 : z < len) :
  Pure P ⟨d, .indexAddr t x y, ty, ps, af, g⟩ l (.pointer (some (a.add (z.toNat * n)))) := fun w => by
 obtain ⟨i, hs, hi, rfl⟩ := sl_spec h
 simp [execOp, hx, hy, Instr.indexAt, asIntOf, Sem.run_bind, run_underlying hs w, h0, h1, sizeOf, typeInfo, hi]
theorem iB {t m e n : Nat} {x y : Operand} {b o : Nat} {k : IntKind} {z : Int} (h : ar P t = some (m, e, n)) (hx : ev l x = .pointer (some ⟨b, o, none⟩)) (hy : ev l y = .int k z) (h0 : 0 ≤ z) (h1 : z < m) :
  Pure P ⟨d, .indexAddr t x y, ty, ps, af, g⟩ l (.pointer (some ⟨b, o + z.toNat * n, none⟩)) := fun w => by
 obtain ⟨i, hs, hi, rfl⟩ := ar_spec h
 simp [execOp, hx, hy, Instr.indexAt, Instr.sureAddr, asIntOf, Sem.run_bind, run_underlying hs w, h0, h1, sizeOf, typeInfo, hi, add_lit]
theorem aB {t ty' e n : Nat} {x : Operand} {a : Option Addr} {len cap : Nat} (h : sl P t = some (e, n)) (hx : ev l x = .slice a len cap) :
  Pure P ⟨d, .call { callee := .builtin .len, args := #[x], argTypes := #[t] }, ty', ps, af, g⟩ l (.int .i64 len) := fun w => by
 obtain ⟨i, hs, hi, rfl⟩ := sl_spec h
 simp [execOp, resolve, invoke, builtin, hx, Builtin.len_, Sem.run_bind, run_underlying hs w, goInt]
theorem max_int {ty' : Nat} {ts : Array TypeId} {x y : Operand} {k k' : IntKind} {m n : Int} (hx : ev l x = .int k m) (hy : ev l y = .int k' n) :
  Pure P ⟨d, .call { callee := .builtin .max, args := #[x, y], argTypes := ts }, ty', ps, af, g⟩ l (.int k (max m n)) := fun w => by
 have : (if n > m then n else m) = max m n := by split <;> omega
 simp [execOp, resolve, invoke, builtin, hx, hy, Builtin.max_, Builtin.max2, this]
theorem min_int {ty' : Nat} {ts : Array TypeId} {x y : Operand} {k k' : IntKind} {m n : Int} (hx : ev l x = .int k m) (hy : ev l y = .int k' n) :
  Pure P ⟨d, .call { callee := .builtin .min, args := #[x, y], argTypes := ts }, ty', ps, af, g⟩ l (.int k (min m n)) := fun w => by
 have : (if n < m then n else m) = min m n := by split <;> omega
 simp [execOp, resolve, invoke, builtin, hx, hy, Builtin.min_, Builtin.min2, this]
theorem not_ {xt : TypeId} {x : Operand} {b : Bool} (hx : ev l x = .bool b) : Pure P ⟨d, .unOp .not xt x, ty, ps, af, g⟩ l (.bool !b) := fun w => by
 simp [execOp, hx, Op.unary]
theorem neg_i64 {xt : TypeId} {x : Operand} {m : Int} (hx : ev l x = .int .i64 m) (h : -9223372036854775807 ≤ m ∧ m ≤ 9223372036854775807) : Pure P ⟨d, .unOp .neg xt x, ty, ps, af, g⟩ l (.int .i64 (-m)) := fun w => by
 have : IntKind.i64.wrap (0 - m) = -m := by rw [IntWalk.i64_in _ (by omega)]; omega
 simp only [execOp, hx, Op.unary, Op.intArith, this, Sem.run_bind, Sem.run_pure, Result.andThen_ok]
theorem mkFunc {fn : Fn} {first cap : List Operand} : Pure P ⟨d, .makeFunc fn first.toArray cap.toArray, ty, ps, af, g⟩ l (.func fn (first.map (ev l)).toArray (cap.map (ev l)).toArray) := fun w => by
 simp [execOp, Instr.makeFunc]

theorem tA {xt yt : TypeId} {x y : Operand} {m n : Int} (hx : ev l x = .int .i64 m) (hy : ev l y = .int .i64 n) (h : -9223372036854775808 ≤ m + n ∧ m + n ≤ 9223372036854775807) :
  Pure P ⟨d, .binOp .add xt x y yt, ty, ps, af, g⟩ l (.int .i64 (m + n)) := fun w => by
 simp only [execOp, hx, hy, eqGuard_add, binOp_add, Op.intArith, IntWalk.i64_in _ h, Sem.run_bind, Sem.run_pure, Result.andThen_ok]
theorem oB {xt yt : TypeId} {x y : Operand} {m n : Int} (hx : ev l x = .int .i64 m) (hy : ev l y = .int .i64 n) (h : -9223372036854775808 ≤ m - n ∧ m - n ≤ 9223372036854775807) :
  Pure P ⟨d, .binOp .sub xt x y yt, ty, ps, af, g⟩ l (.int .i64 (m - n)) := fun w => by
 simp only [execOp, hx, hy, eqGuard_sub, binOp_sub, Op.intArith, IntWalk.i64_in _ h, Sem.run_bind, Sem.run_pure, Result.andThen_ok]
theorem mul_i64 {xt yt : TypeId} {x y : Operand} {m n : Int} (hx : ev l x = .int .i64 m) (hy : ev l y = .int .i64 n) (h : -9223372036854775808 ≤ m * n ∧ m * n ≤ 9223372036854775807) :
  Pure P ⟨d, .binOp .mul xt x y yt, ty, ps, af, g⟩ l (.int .i64 (m * n)) := fun w => by
 simp only [execOp, hx, hy, eqGuard_mul, binOp_mul, Op.intArith, IntWalk.i64_in _ h, Sem.run_bind, Sem.run_pure, Result.andThen_ok]
theorem quo_i64 {xt yt : TypeId} {x y : Operand} {m n : Int} (hx : ev l x = .int .i64 m) (hy : ev l y = .int .i64 n) (h0 : 0 ≤ m) (h1 : 0 < n) (h2 : m ≤ 9223372036854775807) :
  Pure P ⟨d, .binOp .quo xt x y yt, ty, ps, af, g⟩ l (.int .i64 (m / n)) := fun w => by
 have hd : m.tdiv n = m / n := Int.tdiv_eq_ediv_of_nonneg h0
 have hb : 0 ≤ m / n := Int.ediv_nonneg h0 (by omega)
 have hb' : m / n ≤ m := Int.ediv_le_self n h0
 have hw : IntKind.i64.wrap (m / n) = m / n := IntWalk.i64_in _ ⟨by omega, by omega⟩
 simp [execOp, hx, hy, eqGuard_quo, binOp_quo, Op.intDiv, show n ≠ 0 by omega, hd, hw]
theorem rem_i64 {xt yt : TypeId} {x y : Operand} {m n : Int} (hx : ev l x = .int .i64 m) (hy : ev l y = .int .i64 n) (h0 : 0 ≤ m) (h1 : 0 < n) :
  Pure P ⟨d, .binOp .rem xt x y yt, ty, ps, af, g⟩ l (.int .i64 (m % n)) := fun w => by
 have hd : m.tmod n = m % n := Int.tmod_eq_emod_of_nonneg h0
 simp [execOp, hx, hy, eqGuard_rem, binOp_rem, Op.intDiv, show n ≠ 0 by omega, hd]
section
variable {xt yt : TypeId} {x y : Operand} {k : IntKind} {m n : Int}
theorem eql (hx : ev l x = .int k m) (hy : ev l y = .int k n) : Pure P ⟨d, .binOp .eql xt x y yt, ty, ps, af, g⟩ l (.bool (decide (m = n))) := fun w => by
 simp [execOp, hx, hy, eqGuard_at_int, binOp_eql]; rfl
theorem neq (hx : ev l x = .int k m) (hy : ev l y = .int k n) : Pure P ⟨d, .binOp .neq xt x y yt, ty, ps, af, g⟩ l (.bool (decide (m ≠ n))) := fun w => by
 have : (m != n) = decide (m ≠ n) := by rw [Bool.eq_iff_iff]; simp
 simp [execOp, hx, hy, eqGuard_at_int, binOp_neq, this]
theorem lss (hx : ev l x = .int k m) (hy : ev l y = .int k n) : Pure P ⟨d, .binOp .lss xt x y yt, ty, ps, af, g⟩ l (.bool (decide (m < n))) := fun w => by
 simp [execOp, hx, hy, eqGuard_lss, binOp_lss]
theorem leq (hx : ev l x = .int k m) (hy : ev l y = .int k n) : Pure P ⟨d, .binOp .leq xt x y yt, ty, ps, af, g⟩ l (.bool (decide (m ≤ n))) := fun w => by
 simp [execOp, hx, hy, eqGuard_leq, binOp_leq]
theorem gtr (hx : ev l x = .int k m) (hy : ev l y = .int k n) : Pure P ⟨d, .binOp .gtr xt x y yt, ty, ps, af, g⟩ l (.bool (decide (m > n))) := fun w => by
 simp [execOp, hx, hy, eqGuard_gtr, binOp_gtr]
theorem geq (hx : ev l x = .int k m) (hy : ev l y = .int k n) : Pure P ⟨d, .binOp .geq xt x y yt, ty, ps, af, g⟩ l (.bool (decide (m ≥ n))) := fun w => by
 simp [execOp, hx, hy, eqGuard_geq, binOp_geq]
end
theorem Pure.bool {o : Oper} {c b : Bool} (h : Pure P o l (.bool c)) (e : c = b) : Pure P o l (.bool b) := e ▸ h
theorem Pure.eq {o : Oper} {v u : Value} (h : Pure P o l v) (e : v = u) : Pure P o l u := e ▸ h
end

def PtrL (w0 : World) (L : List Chunk) (p : Addr) (us : List Value) : Prop :=
 ∀ F w, (∀ c ∈ L, c ∈ F) → St w0 F w → ∀ j u, us[j]? = some u → w.cell? (p.add j) = some u
theorem addr_add_add (a : Addr) (i j : Nat) : (a.add i).add j = a.add (i + j) := by
 unfold Addr.add
 by_cases hi : i = 0 <;> by_cases hj : j = 0 <;> simp [hi, hj, Nat.add_assoc]
theorem addr_block (a : Addr) (n : Nat) : (a.add n).block = a.block := by unfold Addr.add; split <;> rfl
section
variable {P : Program} {w0 : World} {L L' : List Chunk} {p : Addr} {us : List Value}
theorem PtrL.mono (h : PtrL w0 L p us) (hs : ∀ c ∈ L, c ∈ L') : PtrL w0 L' p us := fun F w hF hw => h F w (fun c hc => hF c (hs c hc)) hw
theorem PtrL.any (h : PtrL w0 [] p us) : PtrL w0 L p us := h.mono (by simp)
theorem PtrL.fld (h : PtrL w0 L p us) {k : Nat} : PtrL w0 L (p.add k) (us.drop k) := fun F w hF hw j u hu => by
 rw [addr_add_add]
 exact h F w hF hw _ u (by rw [← hu, List.getElem?_drop])
theorem PtrL.cut (h : PtrL w0 L p us) (n : Nat) : PtrL w0 L p (us.take n) := fun F w hF hw j u hu => h F w hF hw j u (by
 rw [List.getElem?_take] at hu; split at hu
 ·exact hu
 ·cases hu)
theorem PtrL.old (hb : p.block < w0.heap.size) (hc : ∀ j u, us[j]? = some u → w0.cell? (p.add j) = some u) : PtrL w0 [] p us := fun _ w _ hw j u hu =>
 (hw.1.cell (p := p.add j) (by rw [addr_block]; exact hb)).trans (hc j u hu)
theorem PtrL.own {g i : Nat} {t : TypeId} {cs : List Value} : PtrL w0 [blk g t cs] ⟨g, i, none⟩ (cs.drop i) := fun F w hF hw j u hu => by
 rw [add_lit, blk_cell (hw.2.1 (blk g t cs) (hF _ (by simp))).1]
 rw [List.getElem?_drop] at hu
 exact hu
variable {l : List Value} {d : Option Tmp} {ty : TypeId} {ps : String} {af : Array Edge} {g : Option (Nat × Bool)} {x : Operand}
theorem load1 {t : TypeId} {v : Value} (ho : one P t = true) (hx : ev l x = .pointer (some p)) (hp : PtrL w0 L p (v :: us)) : Sil P w0 L ⟨d, .load t x, ty, ps, af, g⟩ l v := fun F w hF hw => by
 have h0 := hp F w hF hw 0 v rfl
 have hp0 : p.add 0 = p := by simp [Addr.add]
 rw [hp0] at h0
 simp [execOp, hx, Instr.loadAt, Instr.sureAddr, loadVar, Sem.run_bind, (run_isAgg_one ho w).1, h0]
theorem loadA {t n : Nat} (ha : ag P t = some n) (hx : ev l x = .pointer (some p)) (hp : PtrL w0 L p us) (hn : n ≤ us.length) : Sil P w0 L ⟨d, .load t x, ty, ps, af, g⟩ l (.agg (us.take n).toArray) := fun F w hF hw => by
 obtain ⟨h1, i, hi, hs⟩ := run_isAgg_ag ha w
 have hc := run_loadCells_list (P := P) w p (us.take n) ((hp.cut n) F w hF hw)
 have hl : (us.take n).length = n := by simp; omega
 rw [hl] at hc
 simp [execOp, hx, Instr.loadAt, Instr.sureAddr, loadVar, Sem.run_bind, h1, sizeOf, typeInfo, hi, hs, hc]
theorem PtrL.own' {b i : Nat} {e : TypeId} {cs : List Value} (hm : blk b e cs ∈ L) : PtrL w0 L ⟨b, i, none⟩ (cs.drop i) :=
 (PtrL.own (w0 := w0) (g := b) (i := i) (t := e) (cs := cs)).mono (by intro c hc; simp at hc; subst hc; exact hm)
theorem load1_ix {t b i : Nat} {e : TypeId} {cs : List Value} (ho : one P t = true) (hx : ev l x = .pointer (some ⟨b, i, none⟩)) (hm : blk b e cs ∈ L) (hi : i < cs.length) : Sil P w0 L ⟨d, .load t x, ty, ps, af, g⟩ l (nth cs i) := by
 have h : PtrL w0 L ⟨b, i, none⟩ (cs.drop i) := PtrL.own' hm
 have e1 : cs.drop i = nth cs i :: cs.drop (i + 1) := by
  rw [List.drop_eq_getElem_cons hi, mC]; simp [hi]
 rw [e1] at h
 exact load1 ho hx h
theorem loadA_ix {t b i n : Nat} {e : TypeId} {cs : List Value} (ha : ag P t = some n) (hx : ev l x = .pointer (some ⟨b, i, none⟩)) (hm : blk b e cs ∈ L) (hi : i + n ≤ cs.length) : Sil P w0 L ⟨d, .load t x, ty, ps, af, g⟩ l (.agg ((cs.drop i).take n).toArray) :=
 loadA ha hx (PtrL.own' hm) (by simp; omega)
theorem fA {t b i : Nat} {e : TypeId} {cs : List Value} (ho : one P t = true) (hx : ev l x = .pointer (some ⟨b, i, none⟩)) (hm : blk b e cs ∈ L) (hi : Nat.blt i cs.length = true) : Sil P w0 L ⟨d, .load t x, ty, ps, af, g⟩ l (nth cs i) :=
 load1_ix ho hx hm (by simpa using hi)
theorem jA {t b i n : Nat} {e : TypeId} {cs : List Value} (ha : ag P t = some n) (hx : ev l x = .pointer (some ⟨b, i, none⟩)) (hm : blk b e cs ∈ L) (hi : Nat.ble (i + n) cs.length = true) : Sil P w0 L ⟨d, .load t x, ty, ps, af, g⟩ l (.agg ((cs.drop i).take n).toArray) :=
 loadA_ix ha hx hm (by simpa using hi)
theorem uB {t n : Nat} (ha : ag P t = some n) (hx : ev l x = .pointer (some p)) (hp : PtrL w0 L p us) (hn : Nat.ble n us.length = true) : Sil P w0 L ⟨d, .load t x, ty, ps, af, g⟩ l (.agg (us.take n).toArray) :=
 loadA ha hx hp (by simpa using hn)
end

def Sl {E : Type} (w0 : World) (L : List Chunk) (A : Option Addr) (size : Nat) (e : E → List Value) (xs : List E) : Prop :=
 ∀ k x, xs[k]? = some x → ∃ a, A = some a ∧ PtrL w0 L (a.add (k * size)) (e x)
section
variable {P : Program} {w0 : World} {L L' : List Chunk} {E : Type} {A : Option Addr} {size : Nat} {e : E → List Value} {xs : List E}
theorem Sl.mono (h : Sl w0 L A size e xs) (hs : ∀ c ∈ L, c ∈ L') : Sl w0 L' A size e xs := fun k x hx => let ⟨a, ha, hp⟩ := h k x hx; ⟨a, ha, hp.mono hs⟩
theorem Sl.any (h : Sl w0 [] A size e xs) : Sl w0 L A size e xs := h.mono (by simp)
theorem Sl.nil : Sl w0 L A size e [] := fun k x hx => by simp at hx
variable {l : List Value} {d : Option Tmp} {ty : TypeId} {ps : String} {af : Array Edge} {g : Option (Nat × Bool)}
theorem Sl.index {t et : Nat} {x y : Operand} {len cap : Nat} {k : IntKind} {z : Int} {u : E} (h : Sl w0 L A size e xs) (ht : sl P t = some (et, size)) (hx : ev l x = .slice A len cap) (hy : ev l y = .int k z) (h0 : 0 ≤ z) (h1 : z < len) (hu : xs[z.toNat]? = some u) :
  ∃ p, Pure P ⟨d, .indexAddr t x y, ty, ps, af, g⟩ l (.pointer (some p)) ∧ PtrL w0 L p (e u) := by
 obtain ⟨a, rfl, hp⟩ := h _ _ hu
 exact ⟨_, indexAddr_sl ht hx hy h0 h1, hp⟩
def Rd {E : Type} (w : World) (A : Option Addr) (size : Nat) (e : E → List Value) (xs : List E) : Prop :=
 ∀ k x, xs[k]? = some x → ∃ a, A = some a ∧ a.block < w.heap.size ∧ ∀ j u, (e x)[j]? = some u → w.cell? ((a.add (k * size)).add j) = some u
theorem Rd.sl (h : Rd w0 A size e xs) : Sl w0 L A size e xs := fun k x hx => by
 obtain ⟨a, ha, hb, hc⟩ := h k x hx
 exact ⟨a, ha, (PtrL.old (by rw [addr_block]; exact hb) hc).any⟩
theorem Rd.nil {w : World} : Rd w A size e [] := fun k x hx => by simp at hx
theorem Sl.rd {F : List Chunk} {w : World} (h : Sl w0 L A size e xs) (hF : ∀ c ∈ L, c ∈ F) (hw : St w0 F w) (he : ∀ x, (e x) ≠ []) : Rd w A size e xs := fun k x hx => by
 obtain ⟨a, ha, hp⟩ := h k x hx
 refine ⟨a, ha, ?_, hp F w hF hw⟩
 cases hex : e x with
 | nil => exact absurd hex (he x)
 | cons u us =>
  have := World.block_lt_of_cell? w _ (hp F w hF hw 0 u (by rw [hex]; rfl))
  simpa [addr_block] using this
theorem flat_at {size j : Nat} {e : E → List Value} (hl : ∀ x, (e x).length = size) (hj : j < size) : ∀ (ys : List E) (k : Nat) (x : E), ys[k]? = some x → (ys.flatMap e)[k * size + j]? = (e x)[j]? := by
 intro ys
 induction ys with
 | nil => intro k x h; simp at h
 | cons y ys ih =>
  intro k x h
  cases k with
  | zero =>
   simp at h; subst h
   rw [List.flatMap_cons, List.getElem?_append_left (by rw [hl]; omega)]
   simp
  | succ k =>
   have h' : ys[k]? = some x := by simpa using h
   rw [List.flatMap_cons, List.getElem?_append_right (by rw [hl, Nat.succ_mul]; omega), hl, ← ih k x h']
   congr 1
   rw [Nat.succ_mul]; omega
theorem Sl.of_blk {b : Nat} {t : TypeId} {cs : List Value} (hl : ∀ x, (e x).length = size) (hcs : cs = xs.flatMap e) : Sl w0 [blk b t cs] (some ⟨b, 0, none⟩) size e xs := fun k x hx => by
 refine ⟨_, rfl, fun F w hF hw j u hu => ?_⟩
 have hj : j < size := by
  have := (List.getElem?_eq_some_iff.1 hu).1
  rw [hl] at this
  exact this
 rw [addr_add_add, add_lit, blk_cell (hw.2.1 (blk b t cs) (hF _ (by simp))).1, Nat.zero_add, hcs, flat_at hl hj xs k x hx]
 exact hu
theorem Sl.of_row {b : Nat} {t : TypeId} {n c : Nat} {ys : List Value} (hl : ∀ x, (e x).length = size) (hcs : ys = xs.flatMap e) : Sl w0 [row (.slice (some ⟨b, 0, none⟩) n c) t size n ys] (some ⟨b, 0, none⟩) size e xs := fun k x hx => by
 refine ⟨_, rfl, fun F w hF hw j u hu => ?_⟩
 have hj : j < size := by
  have := (List.getElem?_eq_some_iff.1 hu).1
  rw [hl] at this
  exact this
 have ho : w.ownsRow 0 t size (.slice (some ⟨b, 0, none⟩) n c) n ys := (hw.2.1 (row (.slice (some ⟨b, 0, none⟩) n c) t size n ys) (hF _ (by simp))).1
 rw [addr_add_add]
 refine ho.cells (g := b) rfl _ u ?_
 rw [hcs, flat_at hl hj xs k x hx]
 exact hu
end
end Go.K

namespace Go.K
open Go.RowKit

def cl : Value → List Value
 | .agg a => a.toList
 | v => [v]
theorem cells_cl (v : Value) : v.cells.toList = cl v := by cases v <;> rfl

section
variable {P : Program} {w0 : World} {L L' : List Chunk} {l : List Value} {d : Option Tmp} {ty : TypeId} {ps : String} {af : Array Edge} {g : Option (Nat × Bool)}

theorem box {t : TypeId} {x : Operand} : Loud P w0 L ⟨d, .box t x, ty, ps, af, g⟩ l (fun _ : Nat => True) (fun b => .pointer (some ⟨b, 0, none⟩)) (fun b => [blk b t (cl (ev l x))]) := fun F w _ hw => by
 refine OpT.of_run (w' := w.alloc (.cells (cl (ev l x)).toArray t)) ?_ ⟨w.heap.size, trivial, rfl, hw.new t (cl (ev l x))⟩
 rw [← cells_cl]
 simp [execOp, Instr.box, newVar, newRow]
theorem alloc {t : TypeId} {x : Value} (hz : zr P t = some x) : Loud P w0 L ⟨d, .alloc t, ty, ps, af, g⟩ l (fun _ : Nat => True) (fun b => .pointer (some ⟨b, 0, none⟩)) (fun b => [blk b t (cl x)]) := fun F w _ hw => by
 refine OpT.of_run (w' := w.alloc (.cells (cl x).toArray t)) ?_ ⟨w.heap.size, trivial, rfl, hw.new t (cl x)⟩
 rw [← cells_cl]
 simp [execOp, Instr.alloc, newVar, newRow, Sem.run_bind, zr_spec hz]
def Bs (P : Program) (t : TypeId) (n : Nat) (parts : List (Nat × Value)) (e : TypeId) (cs : List Value) : Prop :=
 ∀ w, (Instr.buildSlice t n parts.toArray).run P w = .ok (.slice (some ⟨w.heap.size, 0, none⟩) n n) (w.alloc (.cells cs.toArray e))
theorem buildSlice {t n e : Nat} {parts : List (Nat × Operand)} {cs : List Value} (hb : Bs P t n (parts.map fun p => (p.1, ev l p.2)) e cs) :
  Loud P w0 L ⟨d, .buildSlice t n parts.toArray, ty, ps, af, g⟩ l (fun _ : Nat => True) (fun b => .slice (some ⟨b, 0, none⟩) n n) (fun b => [blk b e cs]) := fun F w _ hw => by
 refine OpT.of_run (w' := w.alloc (.cells cs.toArray e)) ?_ ⟨w.heap.size, trivial, rfl, hw.new e cs⟩
 have := hb w
 simp only [execOp, List.map_toArray, Sem.run_bind, this, Sem.run_pure, Result.andThen_ok]
def Bl (P : Program) (t : TypeId) (parts : List (Nat × Value)) (v : Value) : Prop := ∀ w, (Instr.build t parts.toArray).run P w = .ok v w
theorem build {t : Nat} {parts : List (Nat × Operand)} {v : Value} (hb : Bl P t (parts.map fun p => (p.1, ev l p.2)) v) : Pure P ⟨d, .build t parts.toArray, ty, ps, af, g⟩ l v := fun w => by
 have := hb w
 simp only [execOp, List.map_toArray, Sem.run_bind, this, Sem.run_pure, Result.andThen_ok]

def over (cs : List Value) : Nat → List Value → List Value
 | _, [] => cs
 | i, u :: us => over (setn cs i u) (i + 1) us
theorem over_eq : ∀ (us : List Value) (cs : List Value) (i : Nat), i + us.length ≤ cs.length → (over cs i us).toArray = (cs.take i ++ us ++ cs.drop (i + us.length)).toArray := by
 intro us
 induction us with
 | nil => intro cs i _; simp [over]
 | cons u us ih =>
  intro cs i h
  simp only [List.length_cons] at h
  rw [over, ih _ _ (by rw [setn_eq]; simp; omega), setn_eq]
  congr 1
  have hi : i < cs.length := by omega
  apply List.ext_getElem?
  intro j
  simp only [List.getElem?_append, List.getElem?_take, List.getElem?_drop, List.length_take, List.length_append, List.length_cons, List.getElem?_set, List.length_set, List.getElem?_cons]
  repeat' split
  all_goals (first | rfl | omega | (congr 1; omega) | (simp_all; done))
def sz (P : Program) (t : TypeId) : Option Nat := (P.info? t).map (·.size)
theorem grownBy_setRow (w : World) (b : Nat) (cs : Array Value) : w.grownBy (w.setRow b cs) (some b) :=
 ⟨rfl, rfl, rfl, by simp [World.setRow], fun k _ hne => by
  simp only [World.setRow, Array.getElem?_modify]
  rw [if_neg (fun e => hne (by rw [e]))]⟩
theorem store_ix {t n b i : Nat} {e : TypeId} {x y : Operand} {cs : List Value} (hn : sz P t = some n) (hx : ev l x = .pointer (some ⟨b, i, none⟩)) (hlen : (cl (ev l y)).length = n) (hfit : i + n ≤ cs.length)
  (h1 : (cl (ev l y)).all Value.oneCell' = true) (hr : Rep (blk b e cs) (blk b e (over cs i (cl (ev l y)))) L L') :
  Upd P w0 L ⟨d, .store t x y, ty, ps, af, g⟩ l (fun _ : Unit => True) (fun _ => undef) (fun _ => L') := fun w hw => by
 have hh : w.heap[b]? = some (.cells cs.toArray e (0, 0)) := (hw.2.1 _ hr.mem).1
 have hst := run_storeCells_at P b i e (cl (ev l y)) 0 cs.toArray w hh (by simp; omega) (by simpa using h1)
 simp only [Nat.add_zero] at hst
 rw [← over_eq _ _ _ (by omega)] at hst
 refine OpT.of_skip (w' := w.setRow b (over cs i (cl (ev l y))).toArray) ?_ ⟨(), trivial, rfl, hw.upd hr (grownBy_setRow w b _) (fun k hk => by cases hk; rfl) (setRow_heap w b cs.toArray _ e (0, 0) hh) (fun k hk => .inl hk)⟩
 unfold sz at hn
 cases hi : P.info? t with
 | none => simp [hi] at hn
 | some q =>
  have hs : q.size = n := by simpa [hi] using hn
  have hcs : (ev l y).cells.size = n := by rw [← hlen, ← cells_cl]; simp
  simp [execOp, hx, Instr.storeAt, Instr.sureAddr, storeVar, sizeOf, typeInfo, hi, hs, hcs, cells_cl, hst]

theorem store {t n b i : Nat} {e : TypeId} {x y : Operand} {cs : List Value} (hn : sz P t = some n) (hx : ev l x = .pointer (some ⟨b, i, none⟩)) (hlen : (cl (ev l y)).length = n) (hfit : Nat.ble (i + n) cs.length = true)
  (h1 : (cl (ev l y)).all Value.oneCell' = true) (hr : Rep (blk b e cs) (blk b e (over cs i (cl (ev l y)))) L L') :
  Upd P w0 L ⟨d, .store t x y, ty, ps, af, g⟩ l (fun _ : Unit => True) (fun _ => undef) (fun _ => L') := store_ix hn hx hlen (by simpa using hfit) h1 hr

theorem jC {e : TypeId} {size : Nat} {G : World → Prop} (k : Hold w0 (row (.slice none 0 0) e size 0 [] :: L) G) : Hold w0 L G := fun w hw => k w ⟨hw.1, fun c hc => by
  rcases List.mem_cons.1 hc with rfl | hc
  ·exact ⟨World.ownsRow_nil w 0 e size, fun k hk => by cases hk⟩
  ·exact hw.2.1 c hc, List.pairwise_cons.2 ⟨fun c _ k hk => (by cases hk), hw.2.2⟩⟩
def el (P : Program) (t : TypeId) : Option (TypeId × Nat × Nat) :=
 match P.underlying t with
 | some (.slice e) => match P.info? e with
  | some i => match i.zero with
   | some z => if z.cells.size = i.size ∧ 0 < i.size then some (e, i.size, i.bytes) else none
   | none => none
  | none => none
 | _ => none
theorem el_spec {t e n b : Nat} (h : el P t = some (e, n, b)) : ∃ i z, P.underlying t = some (.slice e) ∧ P.info? e = some i ∧ i.zero = some z ∧ i.size = n ∧ i.bytes = b ∧ z.cells.size = n ∧ 0 < n := by
 unfold el at h
 split at h
 ·rename_i e' hs
  split at h
  ·rename_i i hi
   split at h
   ·rename_i z hz
    split at h
    ·rename_i hc
     simp only [Option.some.injEq, Prod.mk.injEq] at h
     obtain ⟨rfl, rfl, rfl⟩ := h
     exact ⟨i, z, hs, hi, hz, rfl, rfl, hc.1, hc.2⟩
    ·cases h
   ·cases h
  ·cases h
 ·cases h
theorem append {M : Nat → Nat → List Chunk} {t ty' e size bytes n m c c' : Nat} {A : Option Addr} {ad : Addr} {s x : Operand} {xs news : List Value} (ht : el P t = some (e, size, bytes)) (hs : ev l s = .slice A n c) (hx : ev l x = .slice (some ad) m c')
  (hp : PtrL w0 L ad news) (hl : news.length = m * size) (h1 : news.all Value.oneCell' = true) (hm : 0 < m) (hb : (n + m) * bytes ≤ 140737488355328) (hb' : n + m ≤ 140737488355328)
  (hr : ∀ b cap, Rep (row (.slice A n c) e size n xs) (row (.slice (some ⟨b, 0, none⟩) (n + m) cap) e size (n + m) (xs ++ news)) L (M b cap)) :
  Upd P w0 L ⟨d, .call { callee := .builtin .append, args := #[s, x], argTypes := #[t, t] }, ty', ps, af, g⟩ l (fun _ : Nat × Nat => True) (fun r => .slice (some ⟨r.1, 0, none⟩) (n + m) r.2) (fun r => M r.1 r.2) := fun w hw => by
 obtain ⟨i, z, hu, hi, hz, hsi, hby, hzs, hpos⟩ := el_spec ht
 have hown : w.ownsRow 0 e size (.slice A n c) n xs := (hw.2.1 _ (hr 0 0).mem).1
 obtain ⟨b, cap, w', hrun, h2, h3, h4, h5⟩ := run_append_lies (P := P) w t ty' 0 e i z size bytes hu hi hz hsi hby hzs hpos _ n xs hown ad m c' news hl (hp L w (fun _ h => h) hw) (by simpa using h1) hm (by simp only [maxLen]; omega) hb (Nat.zero_le _) _ rfl
 refine OpT.of_run (w' := w') ?_ ⟨(b, cap), trivial, rfl, hw.upd (hr b cap) h3 (fun k hk => hk) h2 (fun k hk => ?_)⟩
 ·simp only [execOp, resolve, invoke, builtin, Sem.run_bind, Sem.run_pure, Result.andThen_ok, List.map_toArray, List.map_cons, List.map_nil, hs, hx, hrun]
 ·have hk' : b = k := by simpa [row, Value.ownBlock] using hk
  subst hk'
  rcases h4 with h4 | h4
  ·exact .inl h4
  ·exact .inr (by omega)

theorem run_call {f : FuncId} (hf : callable P f = true) (args : Array Value) (w : World) : (callFunc f args).run P w = .ok (.enter f args) w := by
 unfold callable at hf
 split at hf
 ·rename_i fn hfn
  simp only [Bool.and_eq_true, Bool.not_eq_true'] at hf
  have hb : fn.body ≠ none := by intro h; rw [h] at hf; simp at hf
  have hn : fn.name ≠ "runtime.NumGoroutine" := by simpa using hf.1
  simp [callFunc, hfn, hn, hb]
 ·cases hf
theorem call {ρ : Type} {ok : ρ → Prop} {val : ρ → Value} {D : ρ → List Chunk} {x : Operand} {args : List Operand} {f : FuncId} {first cap : List Value} {ts : Array TypeId} (hx : ev l x = .func (.func f) first.toArray cap.toArray) (hf : callable P f = true)
  (hc : ∀ F w, (∀ c ∈ L, c ∈ F) → St w0 F w → Calls P f (first ++ args.map (ev l) ++ cap).toArray w (Ret ok val D w)) :
  Loud P w0 L ⟨d, .call { callee := .value x, args := args.toArray, argTypes := ts }, ty, ps, af, g⟩ l ok val D := fun F w hF hw => by
 refine OpT.of_enter (w' := w) (f := f) (args := (first ++ args.map (ev l) ++ cap).toArray) ?_ ((hc F w hF hw).mono ?_)
 ·have e : first.toArray ++ args.toArray.map (ev l) ++ cap.toArray = (first ++ args.map (ev l) ++ cap).toArray := by
   apply Array.toList_inj.1; simp
  simp only [execOp, resolve, hx, Deferred.ofValue, Sem.run_bind, Sem.run_pure, Result.andThen_ok, invoke, e, run_call hf]
 ·rintro e w' ⟨r, hr, rfl, hb, hD⟩
  exact ⟨_, rfl, r, hr, rfl, hw.add hb hD⟩
theorem lB {ρ : Type} {ok : ρ → Prop} {val : ρ → Value} {D : ρ → List Chunk} {args : List Operand} {f : FuncId} {ts : Array TypeId} (hf : callable P f = true)
  (hc : ∀ F w, (∀ c ∈ L, c ∈ F) → St w0 F w → Calls P f (args.map (ev l)).toArray w (Ret ok val D w)) :
  Loud P w0 L ⟨d, .call { callee := .value (.func f), args := args.toArray, argTypes := ts }, ty, ps, af, g⟩ l ok val D :=
 call (first := []) (cap := []) rfl hf (by simpa using hc)
theorem Gives.ret {v : Value} {w : World} {e : Ending} {w' : World} (h : Gives v w e w') : Ret (fun _ : Unit => True) (fun _ => v) (fun _ => []) w e w' :=
 ⟨(), trivial, h.1, h.2, own_nil⟩
theorem nA {args : List Operand} {f : FuncId} {ts : Array TypeId} {v : Value} (hf : callable P f = true)
  (hc : ∀ F w, (∀ c ∈ L, c ∈ F) → St w0 F w → Calls P f (args.map (ev l)).toArray w (Gives v w)) :
  Loud P w0 L ⟨d, .call { callee := .value (.func f), args := args.toArray, argTypes := ts }, ty, ps, af, g⟩ l (fun _ : Unit => True) (fun _ => v) (fun _ => []) :=
 lB hf (fun F w hF hw => (hc F w hF hw).mono fun _ _ h => h.ret)
theorem callv_g {x : Operand} {args : List Operand} {f : FuncId} {first cap : List Value} {ts : Array TypeId} {v : Value} (hx : ev l x = .func (.func f) first.toArray cap.toArray) (hf : callable P f = true)
  (hc : ∀ F w, (∀ c ∈ L, c ∈ F) → St w0 F w → Calls P f (first ++ args.map (ev l) ++ cap).toArray w (Gives v w)) :
  Loud P w0 L ⟨d, .call { callee := .value x, args := args.toArray, argTypes := ts }, ty, ps, af, g⟩ l (fun _ : Unit => True) (fun _ => v) (fun _ => []) :=
 call hx hf (fun F w hF hw => (hc F w hF hw).mono fun _ _ h => h.ret)
section
variable {ops : Array Oper} {Q : Exit → Act → World → Prop} {rest : List Oper} {o : Oper}
theorem seq_call {v : Value} (h : Loud P w0 L o l (fun _ : Unit => True) (fun _ => v) (fun _ => [])) (hg : wantL ops.toList l o.guard = true) (k : Hold w0 L (wpList P ops Q rest (fr (setd l o.dst v)))) : Hold w0 L (wpList P ops Q (o :: rest) (fr l)) :=
 gB h hg fun _ _ => k
theorem seq_st (h : Upd P w0 L o l (fun _ : Unit => True) (fun _ => undef) (fun _ => L')) (hg : wantL ops.toList l o.guard = true) (k : Hold w0 L' (wpList P ops Q rest (fr (setd l o.dst undef)))) : Hold w0 L (wpList P ops Q (o :: rest) (fr l)) :=
 xB h hg fun _ _ => k
theorem seq_new {val : Nat → Value} {D : Nat → List Chunk} (h : Loud P w0 L o l (fun _ : Nat => True) val D) (hg : wantL ops.toList l o.guard = true) (k : ∀ b, Hold w0 (D b ++ L) (wpList P ops Q rest (fr (setd l o.dst (val b))))) : Hold w0 L (wpList P ops Q (o :: rest) (fr l)) :=
 gB h hg fun b _ => k b
end
end
end Go.K

namespace Go.K
open Go.RowKit

section
variable {P : Program} {ops : Array Oper} {Q : Exit → Act → World → Prop} {S : World → Prop} {B : Nat → Bool}

def wpAnyU (P : Program) (ops : Array Oper) (Q : Exit → Act → World → Prop) (S : World → Prop) (B : Nat → Bool) : Nat → Array Bool → Act → World → Prop
 | 0, listed, a, w => Region.ready .any ops listed = [] ∧ Q .normal a w
 | fuel + 1, listed, a, w =>
  (Region.ready .any ops listed = [] → Q .normal a w) ∧
  ∀ i ∈ Region.ready .any ops listed, wpOp P ops Q i (fun a' w' => (B i = false → S w → S w') ∧ wpAnyU P ops Q S B fuel (listed.setIfInBounds i true) a' w') a w

theorem wpAny_of_U : ∀ (fuel : Nat) (listed : Array Bool) (a : Act) (w : World), wpAnyU P ops Q S B fuel listed a w → wpAny P .any ops Q fuel listed a w
 | 0, _, _, _, h => h
 | fuel + 1, _, _, _, h => ⟨h.1, fun i hi => wpOp_mono (fun a' w' h' => wpAny_of_U fuel _ a' w' h'.2) (h.2 i hi)⟩

def noPanic (Q : Exit → Act → World → Prop) : Exit → Act → World → Prop
 | .panic _, _, _ => False
 | e, a, w => Q e a w

def waits (ops : Array Oper) (j i : Nat) : Bool :=
 match ops[j]? with
 | some oj => oj.after.any fun e => Region.binds .any e && e.on == i
 | none => false
theorem waits_spec {j i : Nat} (h : waits ops j i = true) : ∃ oj, ops[j]? = some oj ∧ ∃ e ∈ oj.after, Region.binds .any e = true ∧ e.on = i := by
 unfold waits at h
 split at h
 ·rename_i oj hj
  obtain ⟨e, he, hb⟩ := Array.any_eq_true'.1 h
  simp only [Bool.and_eq_true, beq_iff_eq] at hb
  exact ⟨oj, hj, e, he, hb.1, hb.2⟩
 ·cases h

theorem unlisted_ready {i j : Nat} {listed : Array Bool} (hi : listed.getD i true = false) (hw : waits ops j i = true) : j ∉ Region.ready .any ops listed := fun hr => by
 obtain ⟨_, oj, hoj, hall⟩ := mem_ready.1 hr
 obtain ⟨oj', hoj', e, he, hb, hon⟩ := waits_spec hw
 rw [hoj] at hoj'
 cases hoj'
 have h1 := hall e he hb
 rw [hon] at h1
 rcases Nat.lt_or_ge i listed.size with h' | h'
 ·simp [h'] at hi h1; rw [hi] at h1; cases h1
 ·simp [Array.getElem?_eq_none h'] at h1

theorem wpAnyU_mem {i : Nat} {oi : Oper} {v : Value} (hi : ops[i]? = some oi) (hsel : ∀ (j : Nat) (o : Oper) cs b, ops[j]? = some o → o.op ≠ .select cs b)
  (hQ : ∀ c a w, Q (.panic c) (a.put oi.dst v) w → Q (.panic c) a w) :
  ∀ (fuel : Nat) (listed : Array Bool) (a : Act) (w : World),
   (∀ j oj, ops[j]? = some oj → j ≠ i → listed.getD j true = false → (∀ e ∈ oj.after, Region.binds .any e = true → e.on ≠ i) → oi.apart ops oj = true) →
   (∀ j, B j = true → listed.getD j true = false → j ≠ i → waits ops j i = true) →
   i ∈ Region.ready .any ops listed → YieldsIf P ops S oi v a → S w →
   wpAnyU P ops Q S B fuel (listed.setIfInBounds i true) (a.put oi.dst v) w → wpAnyU P ops Q S B (fuel + 1) listed a w := by
 intro fuel
 induction fuel with
 | zero =>
  intro listed a w _ _ hr hy hS H
  refine ⟨fun h => (by rw [h] at hr; cases hr), fun j hj => ?_⟩
  by_cases hji : j = i
  ·subst hji; exact hy.wpOp hi hS ⟨fun _ h => h, H⟩
  ·have := ready_mono hj hji
   rw [H.1] at this
   cases this
 | succ fuel ih =>
  intro listed a w hfree hB hr hy hS H
  refine ⟨fun h => (by rw [h] at hr; cases hr), fun j hj => ?_⟩
  by_cases hji : j = i
  ·subst hji; exact hy.wpOp hi hS ⟨fun _ h => h, H⟩
  ·have h1 := H.2 j (ready_mono hj hji)
   obtain ⟨hjun, oj, hoj, hall⟩ := mem_ready.1 hj
   have hiun := (mem_ready.1 hr).1
   have hBj : B j = false := by
    cases hb : B j with
    | false => rfl
    | true => exact absurd hj (unlisted_ready hiun (hB j hb hjun hji))
   have hnot : ∀ e ∈ oj.after, Region.binds .any e = true → e.on ≠ i := fun e he hb heq => by
    have h1 := hall e he hb
    rw [heq] at h1
    rcases Nat.lt_or_ge i listed.size with h' | h'
    ·simp [h'] at hiun h1; rw [hiun] at h1; cases h1
    ·simp [Array.getElem?_eq_none h'] at h1
   have h2 := wpOp_putIf hoj (hfree j oj hoj hji hjun hnot) (fun cs b => hsel i oi cs b hi) (fun cs b => hsel j oj cs b hoj) hQ hy h1
   have back : ∀ k, (listed.setIfInBounds j true).getD k true = false → listed.getD k true = false := fun k hun => by
    by_cases hjk : j = k
    ·subst hjk; exact hjun
    ·rw [getD_set_ne true hjk] at hun; exact hun
   have hfree' : ∀ k ok, ops[k]? = some ok → k ≠ i → (listed.setIfInBounds j true).getD k true = false →
     (∀ e ∈ ok.after, Region.binds .any e = true → e.on ≠ i) → oi.apart ops ok = true := fun k ok hk hki hun hno => hfree k ok hk hki (back k hun) hno
   refine wpOp_mono (fun a' w' h3 => ⟨fun hb hs => h3.2.1 hb hs, ih (listed.setIfInBounds j true) a' w' hfree' (fun k hb hun hki => hB k hb (back k hun) hki) (ready_mono hr (Ne.symm hji)) h3.1 (h3.2.1 hBj hS) ?_⟩) h2
   rw [Array.setIfInBounds_comm _ _ hji]
   exact h3.2.2

theorem wpAnyU_pure {i : Nat} {oi : Oper} {v : Value} (hi : ops[i]? = some oi) (hsel : ∀ (j : Nat) (o : Oper) cs b, ops[j]? = some o → o.op ≠ .select cs b)
  (hQ : ∀ c a w, Q (.panic c) (a.put oi.dst v) w → Q (.panic c) a w) :
  ∀ (fuel : Nat) (listed : Array Bool) (a : Act) (w : World),
   (∀ j oj, ops[j]? = some oj → j ≠ i → listed.getD j true = false → (∀ e ∈ oj.after, Region.binds .any e = true → e.on ≠ i) → oi.apart ops oj = true) →
   i ∈ Region.ready .any ops listed → Yields P ops oi v a →
   wpAnyU P ops Q S B fuel (listed.setIfInBounds i true) (a.put oi.dst v) w → wpAnyU P ops Q S B (fuel + 1) listed a w := by
 intro fuel
 induction fuel with
 | zero =>
  intro listed a w _ hr hy H
  refine ⟨fun h => (by rw [h] at hr; cases hr), fun j hj => ?_⟩
  by_cases hji : j = i
  ·subst hji; exact hy.wpOp hi ⟨fun _ h => h, H⟩
  ·have := ready_mono hj hji
   rw [H.1] at this
   cases this
 | succ fuel ih =>
  intro listed a w hfree hr hy H
  refine ⟨fun h => (by rw [h] at hr; cases hr), fun j hj => ?_⟩
  by_cases hji : j = i
  ·subst hji; exact hy.wpOp hi ⟨fun _ h => h, H⟩
  ·have h1 := H.2 j (ready_mono hj hji)
   obtain ⟨hjun, oj, hoj, hall⟩ := mem_ready.1 hj
   have hiun := (mem_ready.1 hr).1
   have hnot : ∀ e ∈ oj.after, Region.binds .any e = true → e.on ≠ i := fun e he hb heq => by
    have h1 := hall e he hb
    rw [heq] at h1
    rcases Nat.lt_or_ge i listed.size with h' | h'
    ·simp [h'] at hiun h1; rw [hiun] at h1; cases h1
    ·simp [Array.getElem?_eq_none h'] at h1
   have h2 := wpOp_put hoj (hfree j oj hoj hji hjun hnot) (fun cs b => hsel i oi cs b hi) (fun cs b => hsel j oj cs b hoj) hQ hy h1
   have hfree' : ∀ k ok, ops[k]? = some ok → k ≠ i → (listed.setIfInBounds j true).getD k true = false →
     (∀ e ∈ ok.after, Region.binds .any e = true → e.on ≠ i) → oi.apart ops ok = true := fun k ok hk hki hun hno => by
    refine hfree k ok hk hki ?_ hno
    by_cases hjk : j = k
    ·subst hjk; exact hjun
    ·rw [getD_set_ne true hjk] at hun; exact hun
   refine wpOp_mono (fun a' w' h3 => ⟨fun hb hs => h3.2.1 hb hs, ih (listed.setIfInBounds j true) a' w' hfree' (ready_mono hr (Ne.symm hji)) h3.1 ?_⟩) h2
   rw [Array.setIfInBounds_comm _ _ hji]
   exact h3.2.2
end

def Keeps (w0 : World) (A : List Chunk) (w : World) : Prop := ∃ F, (∀ c ∈ A, c ∈ F) ∧ St w0 F w
def takeB (ops : Array Oper) (listed : Array Bool) (i : Nat) : Bool := Region.noSelect ops && (Region.free .any ops listed i && (Region.ready .any ops listed).contains i)
def waitB (ops : Array Oper) (bl : List Nat) (listed : Array Bool) (i : Nat) : Bool := bl.all fun j => listed.getD j true || j == i || waits ops j i
def DHold (P : Program) (w0 : World) (ops : Array Oper) (Q : Exit → Act → World → Prop) (A : List Chunk) (bl : List Nat) (fuel : Nat) (listed : Array Bool) (l : List Value) (L : List Chunk) : Prop :=
 ∀ w, St w0 L w → wpAnyU P ops (noPanic Q) (Keeps w0 A) (fun j => bl.contains j) fuel listed (fr l) w

section
variable {P : Program} {w0 : World} {L A : List Chunk} {ops : Array Oper} {Q : Exit → Act → World → Prop} {l : List Value} {o : Oper} {v : Value} {id i fuel : Nat} {bl : List Nat} {listed : Array Bool}

theorem wpAny_noPanic : ∀ (fuel : Nat) (listed : Array Bool) (a : Act) (w : World), wpAny P .any ops (noPanic Q) fuel listed a w → wpAny P .any ops Q fuel listed a w := by
 have keyOp : ∀ (o : Oper) (K : Act → World → Prop) a w, o.wp P a w K (noPanic Q) → o.wp P a w K Q := fun o K a w h => by
  unfold Oper.wp at *
  generalize (execOp a.eval o).run P w = r at *
  cases r with
  | ok n w' =>
   cases n <;> simp only [Oper.upon] at h ⊢ <;> first
    | exact h
    | exact Calls.mono h (fun e w'' he => by cases e <;> first | exact he | exact he.elim | (obtain ⟨a0, w0, h0⟩ := he; exact ⟨a0, w0, h0⟩))
  | halt x w' => cases x <;> simp only [Oper.upon] at h ⊢ <;> first | exact h | exact h.elim
 have keyW : ∀ (i : Nat) (K : Act → World → Prop) a w, wpOp P ops (noPanic Q) i K a w → wpOp P ops Q i K a w := fun i K a w h => by
  unfold wpOp at *
  split
  ·rename_i hn; simpa [hn] using h
  ·rename_i o ho
   simp only [ho] at h
   split
   ·rename_i hw
    simp only [hw, if_true] at h
    rcases h with h | ⟨hask, a0, w0, h0⟩
    ·exact .inl (keyOp o K a w h)
    ·exact .inr ⟨hask, a0, w0, h0⟩
   ·rename_i hw; simpa [hw] using h
 intro fuel
 induction fuel with
 | zero => intro listed a w h; exact h
 | succ fuel ih => intro listed a w h; exact ⟨h.1, fun i hi => keyW i _ a w (wpOp_mono (fun a' w' h' => ih _ a' w' h') (h.2 i hi))⟩

theorem draw_lit {lo : List Oper} (A : List Chunk) (bl : List Nat) (hm : P.follows .mixedOrders = true) (k : DHold P w0 lo.toArray Q A bl lo.length (Array.replicate lo.length false) l L) :
  Hold w0 L ((Code.region id lo.toArray true).wp P Q (fr l)) := fun w hw => by
 have h1 := wpAny_noPanic _ _ _ _ (wpAny_of_U _ _ _ _ (k _ hw.drew))
 refine wp_region_any hm ?_
 rw [List.size_toArray]
 exact h1

theorem d_take (ht : takeB ops listed i = true) (ho : ops[i]? = some o) (hy : Yields P ops o v (fr l)) (k : DHold P w0 ops Q A bl fuel (listed.setIfInBounds i true) (setd l o.dst v) L) :
  DHold P w0 ops Q A bl (fuel + 1) listed l L := fun w hw => by
 simp only [takeB, Bool.and_eq_true] at ht
 refine wpAnyU_pure ho (Region.noSelect_spec ht.1) (fun _ _ _ h => h) fuel listed _ w (Region.free_spec ho ht.2.1) (by simpa using ht.2.2) hy ?_
 rw [fr_put]
 exact k w hw
theorem opAt (ho : nthP ops.toList i = some o) : ops[i]? = some o := by rw [← Array.getElem?_toList, nthP_eq]; exact ho
theorem d_pure (i : Nat) (ho : nthP ops.toList i = some o) (h : Pure P o l v) (ht : takeB ops listed i = true) (hg : wantL ops.toList l o.guard = true)
  (k : DHold P w0 ops Q A bl fuel (listed.setIfInBounds i true) (setd l o.dst v) L) : DHold P w0 ops Q A bl (fuel + 1) listed l L :=
 d_take ht (opAt ho) (.inl ⟨by rw [wanted_eq]; exact hg, fun w => by rw [fr_eval]; exact h w⟩) k
theorem d_skip (i : Nat) (ho : nthP ops.toList i = some o) (ht : takeB ops listed i = true) (hg : wantL ops.toList l o.guard = false)
  (k : DHold P w0 ops Q A bl fuel (listed.setIfInBounds i true) (setd l o.dst undef) L) : DHold P w0 ops Q A bl (fuel + 1) listed l L :=
 d_take ht (opAt ho) (.inr ⟨by rw [wanted_eq]; exact hg, rfl⟩) k
theorem aC (i : Nat) (ho : nthP ops.toList i = some o) (h : Sil P w0 A o l v) (hA : ∀ c ∈ A, c ∈ L) (ht : takeB ops listed i = true) (hb : waitB ops bl listed i = true) (hg : wantL ops.toList l o.guard = true)
  (k : DHold P w0 ops Q A bl fuel (listed.setIfInBounds i true) (setd l o.dst v) L) : DHold P w0 ops Q A bl (fuel + 1) listed l L := fun w hw => by
 simp only [takeB, Bool.and_eq_true] at ht
 refine wpAnyU_mem (opAt ho) (Region.noSelect_spec ht.1) (fun _ _ _ h => h) fuel listed _ w (Region.free_spec (opAt ho) ht.2.1) ?_ (by simpa using ht.2.2) (.inl ⟨by rw [wanted_eq]; exact hg, fun w' ⟨F, hF, hw'⟩ => by rw [fr_eval]; exact h F w' hF hw'⟩) ⟨L, hA, hw⟩ ?_
 ·intro j hj hun hne
  have := List.all_eq_true.1 hb j (by simpa using hj)
  simp only [hun, Bool.false_or, Bool.or_eq_true, beq_iff_eq] at this
  exact this.resolve_left hne
 ·rw [fr_put]
  exact k w hw
theorem d_op {R : World → Value → World → Prop} (i : Nat) (ho : nthP ops.toList i = some o) (hr : Region.ready .any ops listed = [i]) (hg : wantL ops.toList l o.guard = true) (h : ∀ w, St w0 L w → OpT P o l w (R w))
  (hS : ∀ w, St w0 L w → ∀ v w', R w v w' → bl.contains i = true ∨ Keeps w0 A w')
  (k : ∀ w, St w0 L w → ∀ v w', R w v w' → wpAnyU P ops (noPanic Q) (Keeps w0 A) (fun j => bl.contains j) fuel (listed.setIfInBounds i true) (fr (setd l o.dst v)) w') : DHold P w0 ops Q A bl (fuel + 1) listed l L := fun w hw => by
 refine ⟨fun h0 => (by rw [hr] at h0; cases h0), fun j hj => ?_⟩
 rw [hr] at hj
 simp at hj
 subst hj
 have ho' := opAt ho
 have hg' : Region.wanted o (yielded ops (fr l).tmps) = true := by rw [wanted_eq]; exact hg
 unfold wpOp
 simp only [ho', hg', if_true]
 refine .inl (h w hw _ _ fun v w' hR => ⟨fun hb _ => ?_, k w hw v w' hR⟩)
 rcases hS w hw v w' hR with h1 | h1
 ·simp only [h1] at hb; cases hb
 ·exact h1
theorem d_loud {ρ : Type} {ok : ρ → Prop} {val : ρ → Value} {D : ρ → List Chunk} (i : Nat) (ho : nthP ops.toList i = some o) (h : Loud P w0 L o l ok val D) (hA : ∀ c ∈ A, c ∈ L) (hr : Region.ready .any ops listed = [i]) (hg : wantL ops.toList l o.guard = true)
  (k : ∀ r, ok r → DHold P w0 ops Q A bl fuel (listed.setIfInBounds i true) (setd l o.dst (val r)) (D r ++ L)) : DHold P w0 ops Q A bl (fuel + 1) listed l L :=
 d_op i ho hr hg (fun w hw => h L w (fun _ h => h) hw) (fun _ _ _ _ ⟨r, _, _, hst⟩ => .inr ⟨_, fun c hc => List.mem_append_right _ (hA c hc), hst⟩) (fun _ _ v w' ⟨r, hr, hv, hst⟩ => by subst hv; exact k r hr w' hst)
theorem kB (i : Nat) (ho : nthP ops.toList i = some o) (h : Loud P w0 L o l (fun _ : Unit => True) (fun _ => v) (fun _ => [])) (hA : ∀ c ∈ A, c ∈ L) (hr : Region.ready .any ops listed = [i]) (hg : wantL ops.toList l o.guard = true)
  (k : DHold P w0 ops Q A bl fuel (listed.setIfInBounds i true) (setd l o.dst v) L) : DHold P w0 ops Q A bl (fuel + 1) listed l L :=
 d_loud i ho h hA hr hg fun _ _ => k
theorem d_new {val : Nat → Value} {D : Nat → List Chunk} (i : Nat) (ho : nthP ops.toList i = some o) (h : Loud P w0 L o l (fun _ : Nat => True) val D) (hA : ∀ c ∈ A, c ∈ L) (hr : Region.ready .any ops listed = [i]) (hg : wantL ops.toList l o.guard = true)
  (k : ∀ b, DHold P w0 ops Q A bl fuel (listed.setIfInBounds i true) (setd l o.dst (val b)) (D b ++ L)) : DHold P w0 ops Q A bl (fuel + 1) listed l L :=
 d_loud i ho h hA hr hg fun b _ => k b
theorem sC {ρ : Type} {ok : ρ → Prop} {val : ρ → Value} {L' : ρ → List Chunk} (i : Nat) (ho : nthP ops.toList i = some o) (h : Upd P w0 L o l ok val L') (hA : ∀ r, ∀ c ∈ A, c ∈ L' r) (hr : Region.ready .any ops listed = [i]) (hg : wantL ops.toList l o.guard = true)
  (k : ∀ r, ok r → DHold P w0 ops Q A bl fuel (listed.setIfInBounds i true) (setd l o.dst (val r)) (L' r)) : DHold P w0 ops Q A bl (fuel + 1) listed l L :=
 d_op i ho hr hg (fun w hw => h w hw) (fun _ _ _ _ ⟨r, _, _, hst⟩ => .inr ⟨_, hA r, hst⟩) (fun _ _ v w' ⟨r, hr, hv, hst⟩ => by subst hv; exact k r hr w' hst)
theorem eC {ρ : Type} {ok : ρ → Prop} {val : ρ → Value} {L' : ρ → List Chunk} (i : Nat) (ho : nthP ops.toList i = some o) (h : Upd P w0 L o l ok val L') (hB : bl.contains i = true) (hr : Region.ready .any ops listed = [i]) (hg : wantL ops.toList l o.guard = true)
  (k : ∀ r, ok r → DHold P w0 ops Q A bl fuel (listed.setIfInBounds i true) (setd l o.dst (val r)) (L' r)) : DHold P w0 ops Q A bl (fuel + 1) listed l L :=
 d_op i ho hr hg (fun w hw => h w hw) (fun _ _ _ _ _ => .inl hB) (fun _ _ v w' ⟨r, hr, hv, hst⟩ => by subst hv; exact k r hr w' hst)
theorem d_done (hr : Region.ready .any ops listed = []) (k : Hold w0 L (Q .normal (fr l))) : DHold P w0 ops Q A bl fuel listed l L := fun w hw => by
 cases fuel with
 | zero => exact ⟨hr, k w hw⟩
 | succ n => exact ⟨fun _ => k w hw, fun j hj => by rw [hr] at hj; cases hj⟩
end
end Go.K

namespace Go.K
open Go.RowKit

section
variable {P : Program} {w0 : World} {L L' : List Chunk} {Q : Exit → Act → World → Prop} {l : List Value} {x y : Code} {id id' n t : Nat} {c : Operand} {b : Bool} {ops : Array Oper} {rest : List Oper}
theorem zA (k : Hold w0 L (Q .normal (fr l))) : Hold w0 L (Exit.inBlock id Q (.exit id) (fr l)) := fun w hw => by
 unfold Exit.inBlock
 simp only [if_true]
 exact k w hw
theorem exit_out (h : (id' == id) = false) (k : Hold w0 L (Q (.exit id') (fr l))) : Hold w0 L (Exit.inBlock id Q (.exit id') (fr l)) := fun w hw => by
 have : id' ≠ id := by simpa using h
 unfold Exit.inBlock
 simp only [this, if_false]
 exact k w hw
theorem pA {K : Act → World → Prop} (k : Hold w0 L (Q (.exit id) (fr l))) : Hold w0 L (Exit.then K Q (.exit id) (fr l)) := k
theorem qA (k : Hold w0 L (Q .ret (fr l))) : Hold w0 L (Exit.inBlock id Q .ret (fr l)) := k
theorem iA {K : Act → World → Prop} (k : Hold w0 L (Q .ret (fr l))) : Hold w0 L (Exit.then K Q .ret (fr l)) := k
theorem kA (k : Hold w0 L (Q .normal (fr l))) : Hold w0 L (Exit.inBlock id Q .normal (fr l)) := k
theorem dA {K : Act → World → Prop} (k : Hold w0 L (K (fr l))) : Hold w0 L (Exit.then K Q .normal (fr l)) := k

theorem split (t : Nat) (hb : nth l t = .bool b) (kt : b = true → Hold w0 L (wpList P ops Q rest (fr (setn l t (.bool true))))) (kf : b = false → Hold w0 L (wpList P ops Q rest (fr (setn l t (.bool false))))) : Hold w0 L (wpList P ops Q rest (fr l)) := by
 have e : ∀ (l : List Value) t v, nth l t = v → v ≠ undef → setn l t v = l := by
  intro l
  induction l with
  | nil => intro t v h1 h2; rfl
  | cons u l ih =>
   intro t v h1 h2
   cases t with
   | zero => simp [nth] at h1; simp [setn, h1]
   | succ t => simp only [nth] at h1; simp only [setn, ih t v h1 h2]
 have hne : ∀ b, Value.bool b ≠ undef := fun b h => by cases h
 cases b with
 | true => have := kt rfl; rw [e l t _ hb (hne _)] at this; exact this
 | false => have := kf rfl; rw [e l t _ hb (hne _)] at this; exact this
theorem dsplit {A : List Chunk} {bl : List Nat} {fuel : Nat} {listed : Array Bool} (t : Nat) (hb : nth l t = .bool b) (kt : b = true → DHold P w0 ops Q A bl fuel listed (setn l t (.bool true)) L) (kf : b = false → DHold P w0 ops Q A bl fuel listed (setn l t (.bool false)) L) : DHold P w0 ops Q A bl fuel listed l L := by
 have e : ∀ (l : List Value) t v, nth l t = v → v ≠ undef → setn l t v = l := by
  intro l
  induction l with
  | nil => intro t v h1 h2; rfl
  | cons u l ih =>
   intro t v h1 h2
   cases t with
   | zero => simp [nth] at h1; simp [setn, h1]
   | succ t => simp only [nth] at h1; simp only [setn, ih t v h1 h2]
 have hne : ∀ b, Value.bool b ≠ undef := fun b h => by cases h
 cases b with
 | true => have := kt rfl; rw [e l t _ hb (hne _)] at this; exact this
 | false => have := kf rfl; rw [e l t _ hb (hne _)] at this; exact this

def setM : List Value → List Nat → List Value → List Value
 | l, t :: ts, v :: vs => setM (setn l t v) ts vs
 | l, _, _ => l
def setF (f : Nat → Value) : List Value → List Nat → List Value
 | l, t :: ts => setF f (setn l t (f t)) ts
 | l, [] => l
theorem setn_self : ∀ (l : List Value) t, setn l t (nth l t) = l
 | [], _ => rfl
 | _ :: _, 0 => rfl
 | v :: l, t + 1 => by simp only [nth, setn, setn_self l t]
theorem setF_self (l : List Value) : ∀ ts : List Nat, setF (nth l) l ts = l
 | [] => rfl
 | t :: ts => by simp only [setF, setn_self]; exact setF_self l ts
theorem setM_self (l : List Value) : ∀ ts : List Nat, setM l ts (ts.map (nth l)) = l
 | [] => rfl
 | t :: ts => by simp only [List.map_cons, setM, setn_self]; exact setM_self l ts
theorem loopN {a : Act} {w : World} {c : Code} (I : Nat → Act → World → Prop) (h₀ : ∃ n, I n a w)
  (round : ∀ n a w, I n a w → c.wp P (Exit.then (fun a' w' => ∃ m, m < n ∧ I m a' w') Q) a w) : (Code.loop c).wp P Q a w := by
 intro b k cs
 have key : ∀ n a w, I n a w →
   ∃ e a' w', Q e a' w' ∧ Arrives P (lone (b.at a (.code c :: .inLoop c :: k)) cs w) b k cs e a' w' := by
  intro n
  induction n using Nat.strongRecOn with
  | _ n ih =>
   intro a w hI
   obtain ⟨e, a₁, w₁, hq, harr⟩ := round n a w hI b (.inLoop c :: k) cs
   cases e with
   | normal =>
    obtain ⟨m, hlt, hI₁⟩ := hq
    obtain ⟨e₂, a₂, w₂, hq₂, harr₂⟩ := ih m hlt a₁ w₁ hI₁
    exact ⟨e₂, a₂, w₂, hq₂, .of_steps (Steps.trans harr (.one step_inLoop)) harr₂⟩
   | exit id => exact ⟨_, a₁, w₁, hq, .pass (x := .inLoop c) rfl (fun _ _ => .inl (by simp)) harr⟩
   | goto l => exact ⟨_, a₁, w₁, hq, .pass (x := .inLoop c) rfl (fun _ _ => .inl (by simp)) harr⟩
   | ret => exact ⟨_, a₁, w₁, hq, .pass (x := .inLoop c) rfl (fun _ _ => .inl (by simp)) harr⟩
   | panic ch => exact ⟨_, a₁, w₁, hq, .pass (x := .inLoop c) rfl (fun _ _ => .inl (by simp)) harr⟩
   | outgrown => exact ⟨_, a₁, w₁, hq, .pass (x := .inLoop c) rfl (fun _ _ => .inl (by simp)) harr⟩
 obtain ⟨n, hn⟩ := h₀
 obtain ⟨e, a', w', hq, harr⟩ := key n _ w hn
 exact ⟨e, a', w', hq, .of_steps (.one step_loop) harr⟩
def RoundEnd (w0 : World) (J : List Value → List Chunk → Prop) (μ : List Value → Nat) (wi wr : List Nat) (l0 vi : List Value) : Act → World → Prop :=
 fun a w => ∃ vi' vr' L'', a = fr (setF vr' (setM l0 wi vi') wr) ∧ J vi' L'' ∧ μ vi' < μ vi ∧ St w0 L'' w
theorem loopW (wi wr : List Nat) (J : List Value → List Chunk → Prop) (μ : List Value → Nat) (h0 : J (wi.map (nth l)) L)
  (round : ∀ vi vr L', J vi L' → Hold w0 L' (x.wp P (Exit.then (RoundEnd w0 J μ wi wr l vi) Q) (fr (setF vr (setM l wi vi) wr)))) :
  Hold w0 L ((Code.loop x).wp P Q (fr l)) := by
 intro w hw
 refine loopN (fun n a w => ∃ vi vr L', a = fr (setF vr (setM l wi vi) wr) ∧ J vi L' ∧ μ vi = n ∧ St w0 L' w) ⟨_, _, nth l, L, by rw [setM_self, setF_self], h0, rfl, hw⟩ ?_
 rintro n a w ⟨vi, vr, L1, rfl, hJ, rfl, hst⟩
 refine wp_mono (round vi vr L1 hJ w hst) (fun e a' w' hq => ?_)
 cases e with
 | normal =>
  obtain ⟨vi', vr', L2, rfl, hJ', hlt, hst'⟩ := hq
  exact ⟨_, hlt, vi', vr', L2, rfl, hJ', rfl, hst'⟩
 | _ => exact hq
theorem rA {J : List Value → List Chunk → Prop} {μ : List Value → Nat} {wi wr : List Nat} {vi l0 : List Value} {L'' : List Chunk} (vi' : List Value) (hJ : J vi' L'') (hμ : μ vi' < μ vi) (hs : List.Sublist L'' L) (he : l = setF (nth l) (setM l0 wi vi') wr) :
  Hold w0 L (Exit.then (RoundEnd w0 J μ wi wr l0 vi) Q .normal (fr l)) := fun w hw =>
 ⟨vi', nth l, L'', by rw [← he], hJ, hμ, hw.sub hs⟩
theorem nB {lo : List Oper} (bl : List Nat) (hm : P.follows .mixedOrders = true) (k : DHold P w0 lo.toArray Q L bl lo.length (Array.replicate lo.length false) l L) : Hold w0 L ((Code.region id lo.toArray true).wp P Q (fr l)) := draw_lit L bl hm k
theorem draw_drop {lo : List Oper} (m : Nat) (bl : List Nat) (hm : P.follows .mixedOrders = true) (k : DHold P w0 lo.toArray Q (L.drop m) bl lo.length (Array.replicate lo.length false) l L) : Hold w0 L ((Code.region id lo.toArray true).wp P Q (fr l)) := draw_lit (L.drop m) bl hm k
section
variable {E : Type} [Inhabited E] {M A' : List Chunk} {A : Option Addr} {size : Nat} {e : E → List Value} {xs : List E} {d : Option Tmp} {ty : TypeId} {ps : String} {af : Array Edge} {g : Option (Nat × Bool)} {bl : List Nat} {fuel : Nat} {listed : Array Bool}
theorem Sl.ix {ty' et cap : Nat} {x y : Operand} {k : IntKind} {z : Int} (n : Nat) (h : Sl w0 M A size e xs) (ht : sl P ty' = some (et, size)) (hx : ev l x = .slice A xs.length cap) (hy : ev l y = .int k z) (hz : z = (n : Int)) (hn : n < xs.length) :
  ∃ p, Pure P ⟨d, .indexAddr ty' x y, ty, ps, af, g⟩ l (.pointer (some p)) ∧ PtrL w0 M p (e (xs.getD n default)) := by
 subst hz
 exact h.index ht hx hy (by omega) (by omega) (by simp [hn])
theorem vB {ty' et cap : Nat} {x y : Operand} {k : IntKind} {z : Int} (n : Nat) (h : Sl w0 M A size e xs) (ht : sl P ty' = some (et, size)) (hx : ev l x = .slice A xs.length cap) (hy : ev l y = .int k z) (hz : z = (n : Int)) (hn : n < xs.length)
  (hg : wantL ops.toList l g = true) (kk : ∀ p, PtrL w0 M p (e (xs.getD n default)) → Hold w0 L (wpList P ops Q rest (fr (setd l d (.pointer (some p)))))) :
  Hold w0 L (wpList P ops Q (⟨d, .indexAddr ty' x y, ty, ps, af, g⟩ :: rest) (fr l)) := by
 obtain ⟨p, hp, hq⟩ := Sl.ix (d := d) (ty := ty) (ps := ps) (af := af) (g := g) n h ht hx hy hz hn
 exact mA hp hg (kk p hq)
theorem d_ix {ty' et cap : Nat} {x y : Operand} {k : IntKind} {z : Int} (i : Nat) (n : Nat) (ho : nthP ops.toList i = some ⟨d, .indexAddr ty' x y, ty, ps, af, g⟩) (h : Sl w0 M A size e xs) (ht : sl P ty' = some (et, size)) (hx : ev l x = .slice A xs.length cap) (hy : ev l y = .int k z) (hz : z = (n : Int)) (hn : n < xs.length)
  (htk : takeB ops listed i = true) (hg : wantL ops.toList l g = true) (kk : ∀ p, PtrL w0 M p (e (xs.getD n default)) → DHold P w0 ops Q A' bl fuel (listed.setIfInBounds i true) (setd l d (.pointer (some p))) L) :
  DHold P w0 ops Q A' bl (fuel + 1) listed l L := by
 obtain ⟨p, hp, hq⟩ := Sl.ix (d := d) (ty := ty) (ps := ps) (af := af) (g := g) n h ht hx hy hz hn
 exact d_pure i ho hp htk hg (kk p hq)
end
theorem Rd.pass {E : Type} {A : Option Addr} {size : Nat} {e : E → List Value} {xs : List E} {F : List Chunk} {w : World} (h : Rd w0 A size e xs) (hw : St w0 F w) : Rd w A size e xs := fun k x hx => by
 obtain ⟨a, ha, hb, hc⟩ := h k x hx
 exact ⟨a, ha, Nat.lt_of_lt_of_le hb hw.1.size, fun j u hu => (hw.1.cell (p := (a.add (k * size)).add j) (by rw [addr_block, addr_block]; exact hb)).trans (hc j u hu)⟩
end
end Go.K
namespace Go.K
open Go.RowKit
theorem xA {w : World} {L : List Chunk} {k : IntKind} {a b : Int} {v : Value} (hv : v = .int k a) (h : a = b) : Hold w L (Gives (.int k b) w (.returned v)) := gives (by rw [hv, h])
theorem pB {w : World} {L : List Chunk} {a b : Bool} {v : Value} (hv : v = .bool a) (h : a = b) : Hold w L (Gives (.bool b) w (.returned v)) := gives (by rw [hv, h])
theorem rets_v {ρ : Type} {ok : ρ → Prop} {val : ρ → Value} {D : ρ → List Chunk} {w : World} {L L' : List Chunk} {v : Value} (r : ρ) (hok : ok r) (hv : v = val r) (hD : D r = L') (hs : List.Sublist L' L) : Hold w L (Ret ok val D w (.returned v)) :=
 rets r hok hv (hD ▸ hs)
end Go.K
namespace Go.K
open Go.RowKit
theorem cell_now {w0 w : World} {F : List Chunk} {b i : Nat} {t : TypeId} {cs : List Value} {v : Value} (hw : St w0 F w) (hm : blk b t cs ∈ F) (hv : cs[i]? = some v) : w.cell? ⟨b, i, none⟩ = some v := by
 rw [blk_cell (hw.2.1 _ hm).1]; exact hv
theorem cell_later {w0 w w1 : World} {F : List Chunk} {b i : Nat} {t : TypeId} {cs : List Value} {v : Value} (hw : St w0 F w) (hm : blk b t cs ∈ F) (hv : cs[i]? = some v) (hb : Below w.heap.size w w1) : w1.cell? ⟨b, i, none⟩ = some v := by
 have h := cell_now hw hm hv
 exact (hb.cell (World.block_lt_of_cell? w _ h)).trans h
theorem St.old {w0 w : World} {F : List Chunk} {p : Addr} {v : Value} (hw : St w0 F w) (h : w0.cell? p = some v) : w.cell? p = some v := (hw.1.cell (World.block_lt_of_cell? w0 _ h)).trans h
theorem PtrL.cell1 {w0 : World} {p : Addr} {v : Value} (h : w0.cell? p = some v) : PtrL w0 [] p [v] := PtrL.old (World.block_lt_of_cell? w0 _ h) (fun j u hu => by
 cases j with
 | zero => simp at hu; subst hu; simpa [Addr.add] using h
 | succ j => simp at hu)
theorem Rd.later {E : Type} {w w1 : World} {A : Option Addr} {size : Nat} {e : E → List Value} {xs : List E} (h : Rd w A size e xs) (hb : Below w.heap.size w w1) : Rd w1 A size e xs := fun k x hx => by
 obtain ⟨a, ha, hbl, hc⟩ := h k x hx
 exact ⟨a, ha, Nat.lt_of_lt_of_le hbl hb.size, fun j u hu => (hb.cell (p := (a.add (k * size)).add j) (by rw [addr_block, addr_block]; exact hbl)).trans (hc j u hu)⟩
theorem Rd.lit {E : Type} {w0 w : World} {F : List Chunk} {b : Nat} {t : TypeId} {cs : List Value} {size : Nat} {e : E → List Value} {xs : List E} (hw : St w0 F w) (hm : blk b t cs ∈ F) (hl : ∀ x, (e x).length = size) (h0 : 0 < size) (hcs : cs = xs.flatMap e) : Rd w (some ⟨b, 0, none⟩) size e xs :=
 (Sl.of_blk (w0 := w0) (b := b) (t := t) (cs := cs) hl hcs).rd (F := F) (by intro c hc; simp at hc; subst hc; exact hm) hw (fun x h => by have := hl x; rw [h] at this; simp at this; omega)
@[reducible] def eI (z : Int) : List Value := [.int .i64 z]
@[reducible] def eP (x : Int × Int) : List Value := [.int .i64 x.1, .int .i64 x.2]
@[reducible] def eT (x : Int × Int × Int) : List Value := [.int .i64 x.1, .int .i64 x.2.1, .int .i64 x.2.2]
theorem scope {P : Program} {Q : Exit → Act → World → Prop} {w0 : World} {L : List Chunk} {l : List Value} {x : Code} (k : Hold w0 L (x.wp P (Exit.noGoto Q) (fr l))) : Hold w0 L ((Code.scope x).wp P Q (fr l)) := fun w hw => wp_scope_straight (k w hw)
end Go.K
namespace Go.K
open Go.RowKit
theorem PtrL.pass {w0 w w1 : World} {F : List Chunk} {b : Nat} {t : TypeId} {cs : List Value} (hw : St w0 F w) (hm : blk b t cs ∈ F) (hb : Below w.heap.size w w1) : PtrL w1 [] ⟨b, 0, none⟩ cs := by
 have hlt : b < w.heap.size := (hw.lt hm (k := b) (by unfold blk; rfl))
 refine PtrL.old (Nat.lt_of_lt_of_le hlt hb.size) (fun j u hu => ?_)
 rw [add_lit, Nat.zero_add]
 exact cell_later hw hm hu hb
theorem PtrL.now {w0 w : World} {F : List Chunk} {b : Nat} {t : TypeId} {cs : List Value} (hw : St w0 F w) (hm : blk b t cs ∈ F) : PtrL w [] ⟨b, 0, none⟩ cs := PtrL.pass hw hm (Below.refl _ _)
@[reducible] def tup3 (x : Int × Int × Int) : Value := .tuple #[.int .i64 x.1, .int .i64 x.2.1, .int .i64 x.2.2]
def sT (P : Program) (t : TypeId) : Bool := match P.underlying t with | some .string => true | _ => false
theorem sT_spec {P : Program} {t : TypeId} (h : sT P t = true) : P.underlying t = some .string := by
 unfold sT at h
 split at h
 ·rename_i hk; exact hk
 ·cases h
end Go.K
end
section
namespace Go.K
def idx {E : Type} (p : E → Bool) (xs : List E) : Int :=
 match xs.findIdx? p with
 | some i => i
 | none => -1
theorem gt_mem {E : Type} [Inhabited E] {xs : List E} {k : Nat} (h : k < xs.length) : xs.getD k default ∈ xs := by
 rw [List.getD_eq_getElem?_getD, List.getElem?_eq_getElem h]; simp
theorem idx_found {E : Type} [Inhabited E] {p : E → Bool} {xs : List E} {k : Nat} (hk : k < xs.length) (h0 : ∀ j, j < k → p (xs.getD j default) = false) (h1 : p (xs.getD k default) = true) : idx p xs = k := by
 have : xs.findIdx? p = some k := by
  rw [List.findIdx?_eq_some_iff_getElem]
  refine ⟨hk, ?_, fun j hj => ?_⟩
  ·rw [List.getD_eq_getElem?_getD, List.getElem?_eq_getElem hk] at h1; simpa using h1
  ·have := h0 j hj
   rw [List.getD_eq_getElem?_getD, List.getElem?_eq_getElem (by omega)] at this; simpa using this
 simp [idx, this]
theorem idx_none {E : Type} [Inhabited E] {p : E → Bool} {xs : List E} (h0 : ∀ j, j < xs.length → p (xs.getD j default) = false) : idx p xs = -1 := by
 have : xs.findIdx? p = none := by
  rw [List.findIdx?_eq_none_iff]
  intro x hx
  obtain ⟨j, hj, rfl⟩ := List.getElem_of_mem hx
  have := h0 j hj
  rw [List.getD_eq_getElem?_getD, List.getElem?_eq_getElem hj] at this; simpa using this
 simp [idx, this]
theorem idx_ge {E : Type} {p : E → Bool} {xs : List E} : decide (idx p xs ≥ 0) = xs.any p := by
 unfold idx
 cases h : xs.findIdx? p with
 | none =>
  have h' := List.findIdx?_eq_none_iff.1 h
  have : xs.any p = false := by simpa using h'
  simp [this]
 | some i =>
  obtain ⟨hlt, hp, _⟩ := List.findIdx?_eq_some_iff_getElem.1 h
  have : xs.any p = true := List.any_eq_true.2 ⟨xs[i], List.getElem_mem hlt, hp⟩
  simp [this]
def fst {E : Type} (q : E → Int) (xs : List E) : Int × Int :=
 match xs.findIdx? (fun x => q x != 0) with
 | some i => (i, match xs[i]? with | some x => q x | none => 0)
 | none => (0, 0)
theorem fst_found {E : Type} [Inhabited E] {q : E → Int} {xs : List E} {k : Nat} (hk : k < xs.length) (h0 : ∀ j, j < k → q (xs.getD j default) = 0) (h1 : q (xs.getD k default) ≠ 0) : fst q xs = ((k : Int), q (xs.getD k default)) := by
 have e : xs.getD k default = xs[k] := by rw [List.getD_eq_getElem?_getD, List.getElem?_eq_getElem hk]; rfl
 have : xs.findIdx? (fun x => q x != 0) = some k := by
  rw [List.findIdx?_eq_some_iff_getElem]
  refine ⟨hk, ?_, fun j hj => ?_⟩
  ·rw [e] at h1; simpa using h1
  ·have := h0 j hj
   rw [List.getD_eq_getElem?_getD, List.getElem?_eq_getElem (by omega)] at this; simpa using this
 simp [fst, this, hk]
theorem fst_none {E : Type} [Inhabited E] {q : E → Int} {xs : List E} (h0 : ∀ j, j < xs.length → q (xs.getD j default) = 0) : fst q xs = (0, 0) := by
 have : xs.findIdx? (fun x => q x != 0) = none := by
  rw [List.findIdx?_eq_none_iff]
  intro x hx
  obtain ⟨j, hj, rfl⟩ := List.getElem_of_mem hx
  have := h0 j hj
  rw [List.getD_eq_getElem?_getD, List.getElem?_eq_getElem hj] at this; simpa using this
 simp [fst, this]
theorem fB {k : Nat} {P : Nat → Prop} (h : ∀ j, j < k → P j) (hk : P k) : ∀ j, j < k + 1 → P j := fun j hj => by
 rcases Nat.lt_or_ge j k with h1 | h1
 ·exact h j h1
 ·have : j = k := by omega
  subst this; exact hk
end Go.K

namespace Go.K
open Go.RowKit
section
variable {P : Program} {w0 : World} {L : List Chunk} {l : List Value}
theorem run_cellA {p : Addr} {ty n b : Nat} {e : TypeId} {cs : List Value} (ha : ag P ty = some n) (hp : p = ⟨b, 0, none⟩) (hm : blk b e cs ∈ L) (hn : Nat.beq cs.length n = true) (w : World) (hw : St w0 L w) : (loadVar ty p).run P w = .ok (.agg cs.toArray) w := by
 subst hp
 obtain ⟨h1, i, hi, hs⟩ := run_isAgg_ag ha w
 have hn' : cs.length = n := by simpa using hn
 have hc := run_loadCells_list (P := P) w ⟨b, 0, none⟩ cs (fun j v hv => by rw [add_lit, blk_cell (hw.2.1 _ hm).1, Nat.zero_add]; exact hv)
 rw [hn'] at hc
 simp [loadVar, Sem.run_bind, h1, sizeOf, typeInfo, hi, hs, hc]
theorem tB {p : Addr} {ty b : Nat} {e : TypeId} {v : Value} (ho : one P ty = true) (hp : p = ⟨b, 0, none⟩) (hm : blk b e [v] ∈ L) (w : World) (hw : St w0 L w) : (loadVar ty p).run P w = .ok v w := by
 subst hp
 have h0 : w.cell? ⟨b, 0, none⟩ = some v := by rw [blk_cell (hw.2.1 _ hm).1]; rfl
 simp [loadVar, Sem.run_bind, (run_isAgg_one ho w).1, h0]
theorem res_c {fn : Func} {p : Tmp} {ty : TypeId} {b : Nat} {v : Value} (h : fn.results = #[.cell p ty]) (hp : nth l p = .pointer (some ⟨b, 0, none⟩)) {w : World} (hv : (loadVar ty ⟨b, 0, none⟩).run P w = .ok v w) :
  (results fn l.toArray).run P w = .ok v w := by
 have hp' : l.toArray[p]?.getD undef = .pointer (some ⟨b, 0, none⟩) := by rw [← hp, mC]; simp
 simp at hp'
 simp [results, h, hp', asAddr, hv]
theorem res_ct {fn : Func} {p t : Tmp} {ty : TypeId} {b : Nat} {v : Value} (h : fn.results = #[.cell p ty, .tmp t]) (hp : nth l p = .pointer (some ⟨b, 0, none⟩)) {w : World} (hv : (loadVar ty ⟨b, 0, none⟩).run P w = .ok v w) :
  (results fn l.toArray).run P w = .ok (.tuple #[v, nth l t]) w := by
 have hp' : l.toArray[p]?.getD undef = .pointer (some ⟨b, 0, none⟩) := by rw [← hp, mC]; simp
 have ht : l.toArray[t]?.getD undef = nth l t := by rw [mC]; simp
 simp at hp' ht
 simp [results, h, hp', ht, asAddr, hv]
theorem wB {fn : Func} {t u v : Tmp} (h : fn.results = #[.tmp t, .tmp u, .tmp v]) (w : World) : (results fn l.toArray).run P w = .ok (.tuple #[nth l t, nth l u, nth l v]) w := by
 have ht : ∀ t, l.toArray[t]?.getD undef = nth l t := fun t => by rw [mC]; simp
 simp at ht
 simp [results, h, ht]
end
end Go.K
namespace Go.K
open Go.RowKit
section
variable {P : Program} {w0 : World} {L : List Chunk} {l : List Value} {d : Option Tmp} {ty : TypeId} {ps : String} {af : Array Edge} {g : Option (Nat × Bool)}
theorem iC {A : Option Addr} {n c size : Nat} {t : TypeId} {ys : List Value} {G : World → Prop} (hm : row (.slice A n c) t size n ys ∈ L) (k : (n = 0 ∨ ∃ b, A = some ⟨b, 0, none⟩) → Hold w0 L G) : Hold w0 L G := fun w hw => by
 have ho : w.ownsRow 0 t size (.slice A n c) n ys := (hw.2.1 _ hm).1
 refine k ?_ w hw
 rcases Nat.eq_zero_or_pos n with h0 | h0
 ·exact .inl h0
 ·obtain ⟨b, cap, hv, _⟩ := ho.form h0
  refine .inr ⟨b, ?_⟩
  injection hv
theorem Sl.of_row' {E : Type} {A : Option Addr} {n c size : Nat} {t : TypeId} {ys : List Value} {e : E → List Value} {xs : List E} (h : n = 0 ∨ ∃ b, A = some ⟨b, 0, none⟩) (hn : xs.length = n) (hl : ∀ x, (e x).length = size) (hcs : ys = xs.flatMap e) : Sl w0 [row (.slice A n c) t size n ys] A size e xs := by
 rcases h with h | ⟨b, rfl⟩
 ·have : xs = [] := List.eq_nil_of_length_eq_zero (by omega)
  subst this; exact Sl.nil
 ·exact Sl.of_row hl hcs
theorem eql_slnil {t e n yt : Nat} {x : Operand} {A : Option Addr} {len cap : Nat} (h : sl P t = some (e, n)) (hx : ev l x = .slice A len cap) : Pure P ⟨d, .binOp .eql t x (.const (.slice none 0 0)) yt, ty, ps, af, g⟩ l (.bool A.isNone) := fun w => by
 obtain ⟨i, hs, _⟩ := sl_spec h
 have := Lib.run_eql_slice_nil (P := P) w t e A len cap 0 0 hs
 have hc : ev l (.const (.slice none 0 0)) = .slice none 0 0 := rfl
 simp only [execOp, hx, hc, eqGuard_at_slice, this, Sem.run_bind, Sem.run_pure, Result.andThen_ok]
end
theorem fC {P : Program} {l : List Value} {d : Option Tmp} {ty : TypeId} {ps : String} {af : Array Edge} {g : Option (Nat × Bool)} {xt : TypeId} {x : Operand} {p : Prop} [Decidable p] (hx : ev l x = .bool (decide p)) : Pure P ⟨d, .unOp .not xt x, ty, ps, af, g⟩ l (.bool (decide (¬ p))) := by
 have h := not_ (P := P) (d := d) (ty := ty) (ps := ps) (af := af) (g := g) (xt := xt) hx
 rw [← decide_not] at h
 exact h
end Go.K

namespace Go.K
open Go.RowKit
@[reducible] def RetS {E : Type} (t : TypeId) (size : Nat) (e : E → List Value) (xs : List E) (w : World) : Ending → World → Prop :=
 Ret (fun r : Option Addr × Nat => xs.length = 0 ∨ ∃ b, r.1 = some ⟨b, 0, none⟩) (fun r => .slice r.1 xs.length r.2) (fun r => [row (.slice r.1 xs.length r.2) t size xs.length (xs.flatMap e)]) w
@[reducible] def RetSE {E : Type} (t : TypeId) (size : Nat) (e : E → List Value) (xs : List E) (z : Int) (w : World) : Ending → World → Prop :=
 Ret (fun r : Option Addr × Nat => xs.length = 0 ∨ ∃ b, r.1 = some ⟨b, 0, none⟩) (fun r => .tuple #[.slice r.1 xs.length r.2, .int .i64 z]) (fun r => [row (.slice r.1 xs.length r.2) t size xs.length (xs.flatMap e)]) w
section
variable {w0 w : World} {L : List Chunk} {E : Type} {A : Option Addr} {size n c : Nat} {t : TypeId} {e : E → List Value} {xs : List E} {ys : List Value} {v : Value}
theorem rets_s (hm : row (.slice A n c) t size n ys ∈ L) (hn : n = xs.length) (hys : ys = xs.flatMap e) (hv : v = .slice A n c) : Hold w L (RetS t size e xs w (.returned v)) := by
 subst hn hys hv
 refine iC hm fun h => rets (A, c) h rfl (by simpa using hm)
theorem rets_se {z z' : Int} (hm : row (.slice A n c) t size n ys ∈ L) (hn : n = xs.length) (hys : ys = xs.flatMap e) (hz : z = z') (hv : v = .tuple #[.slice A n c, .int .i64 z]) : Hold w L (RetSE t size e xs z' w (.returned v)) := by
 subst hn hys hv hz
 refine iC hm fun h => rets (A, c) h rfl (by simpa using hm)
theorem rets_s0 (hx : xs = []) (hv : v = .slice none 0 0) : Hold w L (RetS t size e xs w (.returned v)) := by
 subst hx
 exact jC (e := t) (size := size) (rets_s (List.Mem.head _) rfl rfl hv)
theorem rets_se0 {z z' : Int} (hx : xs = []) (hz : z = z') (hv : v = .tuple #[.slice none 0 0, .int .i64 z]) : Hold w L (RetSE t size e xs z' w (.returned v)) := by
 subst hx
 exact jC (e := t) (size := size) (rets_se (List.Mem.head _) rfl rfl hz hv)
theorem Rd.isNil {w : World} (h : Rd w Option.none size e xs) : xs = [] := by
 cases xs with
 | nil => rfl
 | cons x xs => obtain ⟨a, ha, _⟩ := h 0 x rfl; cases ha
theorem oneI (xs : List Int) : (xs.flatMap eI).all Value.oneCell' = true := by
 induction xs with
 | nil => rfl
 | cons x xs ih => rw [List.flatMap_cons, List.all_append, ih]; rfl
theorem Sl.own (h : xs.length = 0 ∨ ∃ b, A = some ⟨b, 0, none⟩) (hl : ∀ x, (e x).length = size) : Sl w0 [row (.slice A xs.length c) t size xs.length (xs.flatMap e)] A size e xs := Sl.of_row' h rfl hl rfl
theorem Rd.own {F : List Chunk} (hw : St w0 F w) (hm : row (.slice A xs.length c) t size xs.length (xs.flatMap e) ∈ F) (h : xs.length = 0 ∨ ∃ b, A = some ⟨b, 0, none⟩) (hl : ∀ x, (e x).length = size) (h0 : 0 < size) : Rd w A size e xs :=
 (Sl.own (w0 := w0) (t := t) (c := c) h hl).rd (F := F) (by intro c hc; simp at hc; subst hc; exact hm) hw (fun x hx => by have := hl x; rw [hx] at this; simp at this; omega)
theorem PtrL.at1 {p : Addr} {us : List Value} {ch : Chunk} (h : PtrL w0 [ch] p us) (hm : ch ∈ L) : PtrL w0 L p us := h.mono (by intro c hc; simp at hc; subst hc; exact hm)
theorem Sl.at1 {ch : Chunk} (h : Sl w0 [ch] A size e xs) (hm : ch ∈ L) : Sl w0 L A size e xs := h.mono (by intro c hc; simp at hc; subst hc; exact hm)
theorem Sl.of_blkp {b : Nat} {cs rest : List Value} (hl : ∀ x, (e x).length = size) (hcs : cs = xs.flatMap e ++ rest) : Sl w0 [blk b t cs] (some ⟨b, 0, none⟩) size e xs := fun k x hx => by
 refine ⟨_, rfl, fun F w hF hw j u hu => ?_⟩
 have hj : j < size := by
  have := (List.getElem?_eq_some_iff.1 hu).1
  rw [hl] at this
  exact this
 have h1 := (flat_at hl hj xs k x hx).trans hu
 have h2 := (List.getElem?_eq_some_iff.1 h1).1
 rw [addr_add_add, add_lit, blk_cell (hw.2.1 (blk b t cs) (hF _ (by simp))).1, Nat.zero_add, hcs, List.getElem?_append_left h2, h1]
theorem blk_row0 {b : Nat} {G : World → Prop} (k : Hold w0 (row (.slice (some ⟨b, 0, none⟩) 0 0) t size 0 [] :: L) G) : Hold w0 (blk b t [] :: L) G := fun w hw => by
 refine k w ⟨hw.1, fun c hc => ?_, ?_⟩
 ·rcases List.mem_cons.1 hc with rfl | hc
  ·have h := hw.2.1 (blk b t []) (by simp)
   exact ⟨⟨by simp, .inr ⟨b, 0, #[], rfl, Nat.zero_le _, h.1, Nat.le_refl _, Nat.zero_le _, by simp, by simp⟩⟩, fun k hk => h.2 k (by
    have : b = k := by simpa [row, Value.ownBlock] using hk
    exact this.symm)⟩
  ·exact hw.2.1 c (List.mem_cons_of_mem _ hc)
 ·have h := List.pairwise_cons.1 hw.2.2
  exact List.pairwise_cons.2 ⟨fun c hc k hk => h.1 c hc k (by
    have : b = k := by simpa [row, Value.ownBlock] using hk
    exact this.symm), h.2⟩
theorem Sl.ptr {a : Addr} (h : Sl w0 L (some a) size e xs) (hl : ∀ x, (e x).length = size) (h0 : 0 < size) : PtrL w0 L a (xs.flatMap e) := fun F w hF hw j u hu => by
 have hj := (List.getElem?_eq_some_iff.1 hu).1
 have hlen : (xs.flatMap e).length = xs.length * size := by
  clear h hu hj
  induction xs with
  | nil => simp
  | cons x xs ih => rw [List.flatMap_cons, List.length_append, ih, hl, List.length_cons, Nat.succ_mul]; omega
 have hk : j / size < xs.length := by
  rw [hlen] at hj
  exact Nat.div_lt_of_lt_mul (by rwa [Nat.mul_comm] at hj)
 have hjm : j % size < size := Nat.mod_lt _ h0
 have hx : xs[j / size]? = some xs[j / size] := List.getElem?_eq_getElem hk
 obtain ⟨a', ha, hp⟩ := h _ _ hx
 cases ha
 have h1 := flat_at hl hjm xs _ _ hx
 have e1 : j / size * size + j % size = j := by rw [Nat.mul_comm]; exact Nat.div_add_mod j size
 rw [e1] at h1
 have h2 := hp F w hF hw (j % size) u (by rw [← h1]; exact hu)
 rw [addr_add_add, e1] at h2
 exact h2
end
section
variable {P : Program} {w0 : World} {L L' : List Chunk} {l : List Value} {d : Option Tmp} {ty : TypeId} {ps : String} {af : Array Edge} {g : Option (Nat × Bool)}
theorem flat_len {E : Type} {e : E → List Value} {size : Nat} (hl : ∀ x, (e x).length = size) : ∀ xs : List E, (xs.flatMap e).length = xs.length * size := by
 intro xs
 induction xs with
 | nil => simp
 | cons x xs ih => rw [List.flatMap_cons, List.length_append, ih, hl, List.length_cons, Nat.succ_mul]; omega
theorem appendS {E : Type} {M : Option Addr → Nat → List Chunk} {t ty' e size bytes n c c' : Nat} {A B : Option Addr} {enc : E → List Value} {zs : List E} {s x : Operand} {xs : List Value} (ht : el P t = some (e, size, bytes)) (hs : ev l s = .slice A n c) (hx : ev l x = .slice B zs.length c')
  (hp : Sl w0 L B size enc zs) (hl : ∀ x, (enc x).length = size) (h1 : (zs.flatMap enc).all Value.oneCell' = true) (hb : (n + zs.length) * bytes ≤ 140737488355328) (hb' : n + zs.length ≤ 140737488355328)
  (hr : ∀ A' cap, Rep (row (.slice A n c) e size n xs) (row (.slice A' (n + zs.length) cap) e size (n + zs.length) (xs ++ zs.flatMap enc)) L (M A' cap)) :
  Upd P w0 L ⟨d, .call { callee := .builtin .append, args := #[s, x], argTypes := #[t, t] }, ty', ps, af, g⟩ l (fun _ : Option Addr × Nat => True) (fun r => .slice r.1 (n + zs.length) r.2) (fun r => M r.1 r.2) := by
 rcases Nat.eq_zero_or_pos zs.length with h0 | h0
 ·intro w hw
  obtain ⟨i, z, hu, hi, hz, hsi, hby, hzs, hpos⟩ := el_spec ht
  have hz0 : zs = [] := List.eq_nil_of_length_eq_zero h0
  subst hz0
  have hown : w.ownsRow 0 e size (.slice A n c) n xs := (hw.2.1 _ (hr none 0).mem).1
  have hle : n ≤ c := by
   rcases hown.2 with ⟨h, hn⟩ | ⟨gg, cap, cur, h, _, _, h2, _⟩
   ·omega
   ·injection h with _ _ h; omega
  have hsrc : Src P i.size t (.slice B 0 c') 0 [] w := by
   cases B with
   | none => exact Src.ofNil w hu c'
   | some a => exact Src.ofSlice w hu a 0 c' [] (by simp) (by simp) (by simp)
  have hrun := run_append_nothing (P := P) w t t ty' e i hu hi A n c hle (.slice B 0 c') hsrc
  have hx' : ev l x = .slice B 0 c' := hx
  refine OpT.of_run (w' := w) ?_ ⟨(A, c), trivial, rfl, ?_⟩
  ·simp only [execOp, resolve, invoke, builtin, Sem.run_bind, Sem.run_pure, Result.andThen_ok, List.map_toArray, List.map_cons, List.map_nil, hs, hx', hrun]
   rfl
  ·have hR := hr A c
   simp only [List.length_nil, Nat.add_zero, List.flatMap_nil, List.append_nil] at hR ⊢
   obtain ⟨X, Y, e1, e2⟩ := hR
   rw [e2, ← e1]; exact hw
 ·have hB : ∃ a, B = some a := by
   obtain ⟨a, ha, _⟩ := hp 0 zs[0] (List.getElem?_eq_getElem h0)
   exact ⟨a, ha⟩
  obtain ⟨a, rfl⟩ := hB
  have hpos : 0 < size := by obtain ⟨i, z, hu, hi, hz, hsi, hby, hzs, hpos⟩ := el_spec ht; exact hpos
  intro w hw
  intro K Q hK
  exact append (news := zs.flatMap enc) ht hs hx (hp.ptr hl hpos) (flat_len hl zs) h1 h0 hb hb' (fun b cap => hr (some ⟨b, 0, none⟩) cap) w hw K Q (fun v w' ⟨r, h1, h2, h3⟩ => hK v w' ⟨(some ⟨r.1, 0, none⟩, r.2), trivial, h2, h3⟩)
theorem elem_sl {t e n : Nat} (h : sl P t = some (e, n)) : P.underlying t = some (.slice (P.elem t)) ∧ P.elem t = e := by
 obtain ⟨i, hs, hi, hn⟩ := sl_spec h
 have : P.elem t = e := by simp [Program.elem, hs]
 exact ⟨by rw [this]; exact hs, this⟩
theorem Sl.take {E : Type} {M : List Chunk} {A : Option Addr} {size : Nat} {e : E → List Value} {xs : List E} (h : Sl w0 M A size e xs) (n : Nat) : Sl w0 M A size e (xs.take n) := fun k x hx => h k x (by
 rw [List.getElem?_take] at hx
 split at hx
 ·exact hx
 ·cases hx)
theorem addr_add0 (a : Addr) : a.add 0 = a := by
 unfold Addr.add
 split
 ·rename_i h; cases a; simp_all
 ·cases a; simp_all
theorem slice_hi {t et size n c : Nat} {x y : Operand} {A : Option Addr} {k : IntKind} {z : Int} (m : Nat) (hs : sl P t = some (et, size)) (hx : ev l x = .slice A n c) (hy : ev l y = .int k z) (hz : z = (m : Int)) (h1 : m ≤ c) :
  Pure P ⟨d, .slice t x none (some y) none, ty, ps, af, g⟩ l (.slice A m c) := fun w => by
 subst hz
 obtain ⟨hu, he⟩ := elem_sl hs
 obtain ⟨i, _, hi, hn⟩ := sl_spec hs
 have := run_slice_h (P := P) w t A n c hu k (m : Int) (by omega) (by omega)
 have e0 : A.map (fun a => a.add (0 * size)) = A := by cases A <;> simp [addr_add0]
 simp only [execOp, Option.map_some, Option.map_none, hx, hy, run_sliceAt_slice w t _ none _ none hu, this, sizeOf, typeInfo, he, hi, hn, Sem.run_bind, run_program, Sem.run_pure, Result.andThen_ok, sliced, Nat.sub_zero, Int.toNat_natCast, e0, ite_self]
theorem slice_ar {t m0 e size b : Nat} {x y : Operand} {k : IntKind} {z : Int} (m : Nat) (ha : ar P t = some (m0, e, size)) (hx : ev l x = .pointer (some ⟨b, 0, none⟩)) (hy : ev l y = .int k z) (hz : z = (m : Int)) (h1 : m ≤ m0) :
  Pure P ⟨d, .slice t x none (some y) none, ty, ps, af, g⟩ l (.slice (some ⟨b, 0, none⟩) m m0) := fun w => by
 subst hz
 obtain ⟨i, hu, hi, hn⟩ := ar_spec ha
 have e1 : P.elem t = e := by simp [Program.elem, hu]
 have e2 : P.arrayLen t = m0 := by simp [Program.arrayLen, hu]
 have := run_sliceAt_array_h (P := P) w t ⟨b, 0, none⟩ (by rw [e1, e2]; exact hu) k (m : Int) (by omega) (by rw [e2]; omega)
 simp only [execOp, Option.map_some, Option.map_none, hx, hy, this, sizeOf, typeInfo, e1, e2, hi, hn, Sem.run_bind, run_program, Sem.run_pure, Result.andThen_ok, slicedAt, Nat.sub_zero, Int.toNat_natCast, addr_add0, Nat.zero_mul, ite_self]
def eq2 (P : Program) (t : TypeId) : Bool :=
 !P.stoodInHeld t && !P.eqGuardType P.depth t && match P.underlying t with
 | some (.struct fs) => match fs.toList with
  | [f, g] => f.name != "_" && g.name != "_" && one P f.type && one P g.type && (match P.underlying f.type with | some (.int _) => true | _ => false) && (match P.underlying g.type with | some (.int _) => true | _ => false) && f.offset == 0 && g.offset == 1
  | _ => false
 | _ => false
theorem run_eq2 {t : TypeId} (h : eq2 P t = true) (a b c d : Int) (w : World) : (Op.equalIn 10000 t (.agg #[.int .i64 a, .int .i64 b]) (.agg #[.int .i64 c, .int .i64 d])).run P w = .ok (a == c && b == d) w ∧ P.eqGuardType P.depth t = false := by
 unfold eq2 at h
 simp only [Bool.and_eq_true, Bool.not_eq_true'] at h
 obtain ⟨⟨h1, h2⟩, h3⟩ := h
 refine ⟨?_, h2⟩
 split at h3
 ·rename_i fs hu
  split at h3
  ·rename_i f g hf
   simp only [Bool.and_eq_true, bne_iff_ne, beq_iff_eq] at h3
   obtain ⟨⟨⟨⟨⟨⟨⟨n1, n2⟩, o1⟩, o2⟩, u1⟩, u2⟩, q1⟩, q2⟩ := h3
   have e1 : P.fieldsOf t = fs := by simp [Program.fieldsOf, hu]
   split at u1
   ·rename_i k1 hk1
    split at u2
    ·rename_i k2 hk2
     have r1 : ∀ x y w, (Op.equalIn 9999 f.type (.int .i64 x) (.int .i64 y)).run P w = .ok (x == y) w := fun x y w => run_equalIn_int w 9998 f.type .i64 k1 x y hk1
     have r2 : ∀ x y w, (Op.equalIn 9999 g.type (.int .i64 x) (.int .i64 y)).run P w = .ok (x == y) w := fun x y w => run_equalIn_int w 9998 g.type .i64 k2 x y hk2
     have p1 : ∀ x y w, (part f.type #[.int .i64 x, .int .i64 y] f.offset).run P w = .ok (.int .i64 x) w := fun x y w => by
      simp [part, (run_isAgg_one o1 w).1, Sem.run_bind, q1]
     have p2 : ∀ x y w, (part g.type #[.int .i64 x, .int .i64 y] g.offset).run P w = .ok (.int .i64 y) w := fun x y w => by
      simp [part, (run_isAgg_one o2 w).1, Sem.run_bind, q2]
     have e2 := run_equalIn_struct (P := P) w 9999 t #[.int .i64 a, .int .i64 b] #[.int .i64 c, .int .i64 d] (by rw [e1]; exact hu) h1
     rw [e2, e1, hf]
     cases hac : (a == c)
     ·simp [Op.eqFields, n1, p1, r1, Sem.run_bind, hac]
     ·cases hbd : (b == d)
      ·simp [Op.eqFields, n1, n2, p1, p2, r1, r2, Sem.run_bind, hac, hbd]
      ·simp [Op.eqFields, n1, n2, p1, p2, r1, r2, Sem.run_bind, hac, hbd]
    ·cases u2
   ·cases u1
  ·cases h3
 ·cases h3
theorem eql_s2 {t yt : Nat} {x y : Operand} {a b c e : Int} (h : eq2 P t = true) (hx : ev l x = .agg #[.int .i64 a, .int .i64 b]) (hy : ev l y = .agg #[.int .i64 c, .int .i64 e]) : Pure P ⟨d, .binOp .eql t x y yt, ty, ps, af, g⟩ l (.bool (decide ((a, b) = (c, e)))) := fun w => by
 obtain ⟨h1, h2⟩ := run_eq2 h a b c e w
 have h3 := run_eqGuard_agg (P := P) w .eql t x y #[.int .i64 a, .int .i64 b] #[.int .i64 c, .int .i64 e] h2
 have h4 := run_eql_struct (P := P) w t #[.int .i64 a, .int .i64 b] #[.int .i64 c, .int .i64 e]
 have e1 : (a == c && b == e) = decide ((a, b) = (c, e)) := by
  rw [Bool.eq_iff_iff]; simp
 simp only [execOp, hx, hy, Sem.run_bind, h3, Result.andThen_ok, h4, h1, e1, Sem.run_pure]
theorem neq_s2 {t yt : Nat} {x y : Operand} {a b c e : Int} (h : eq2 P t = true) (hx : ev l x = .agg #[.int .i64 a, .int .i64 b]) (hy : ev l y = .agg #[.int .i64 c, .int .i64 e]) : Pure P ⟨d, .binOp .neq t x y yt, ty, ps, af, g⟩ l (.bool (decide ((a, b) ≠ (c, e)))) := fun w => by
 obtain ⟨h1, h2⟩ := run_eq2 h a b c e w
 have h3 := run_eqGuard_agg (P := P) w .neq t x y #[.int .i64 a, .int .i64 b] #[.int .i64 c, .int .i64 e] h2
 have h4 := run_neq_struct (P := P) w t #[.int .i64 a, .int .i64 b] #[.int .i64 c, .int .i64 e]
 have e1 : (!(a == c && b == e)) = decide ((a, b) ≠ (c, e)) := by
  rw [Bool.eq_iff_iff]; simp
 simp only [execOp, hx, hy, Sem.run_bind, h3, Result.andThen_ok, h4, h1, e1, Sem.run_pure]
theorem eql_key {t yt m : Nat} {x y : Operand} {a b : Value} {la lb : List Lit} (hk : P.keyTypeAt 10 t = true) (hg : P.eqGuardType P.depth t = false) (hx : ev l x = a) (hy : ev l y = b) (fa : a.formed P t = true) (fb : b.formed P t = true)
  (ha : P.keyLits m t a.cells.toList = some la) (hb : P.keyLits m t b.cells.toList = some lb) (hag : ∃ xs ys, a = .agg xs ∧ b = .agg ys) (c : Bool) (hc : c = true ↔ la = lb) : Pure P ⟨d, .binOp .eql t x y yt, ty, ps, af, g⟩ l (.bool c) := fun w => by
 obtain ⟨xs, ys, rfl, rfl⟩ := hag
 obtain ⟨r, h1, h2⟩ := run_equalIn_deep (P := P) 9990 10 t hk w m m (.agg xs) (.agg ys) la lb fa fb ha hb
 have e1 : r = c := by rw [Bool.eq_iff_iff, h2, hc]
 have h3 := run_eqGuard_agg (P := P) w .eql t x y xs ys hg
 have h4 := run_eql_struct (P := P) w t xs ys
 simp only [execOp, hx, hy, Sem.run_bind, h3, Result.andThen_ok, h4, h1, e1, Sem.run_pure]
theorem vA {t n b : Nat} {e : TypeId} {x y : Operand} {cs : List Value} (hn : sz P t = some n) (hx : ev l x = .pointer (some ⟨b, 0, none⟩)) (hlen : Nat.beq (cl (ev l y)).length n = true) (hfit : Nat.beq cs.length n = true)
  (h1 : (cl (ev l y)).all Value.oneCell' = true) (hr : Rep (blk b e cs) (blk b e (cl (ev l y))) L L') :
  Upd P w0 L ⟨d, .store t x y, ty, ps, af, g⟩ l (fun _ : Unit => True) (fun _ => undef) (fun _ => L') := by
 have h2 : (cl (ev l y)).length = n := by simpa using hlen
 have h3 : cs.length = n := by simpa using hfit
 have h4 : over cs 0 (cl (ev l y)) = cl (ev l y) := by
  have := over_eq (cl (ev l y)) cs 0 (by omega)
  have := List.toArray_inj this
  rw [this]
  simp [h2, ← h3]
 exact store_ix (cs := cs) (i := 0) (b := b) hn hx h2 (by omega) h1 (by rw [h4]; exact hr)
theorem weak {L L' : List Chunk} {G : World → Prop} (hs : List.Sublist L' L) (k : Hold w0 L' G) : Hold w0 L G := fun w hw => k w (hw.sub hs)
end
theorem Rd.litp {E : Type} {w0 w : World} {F : List Chunk} {b : Nat} {t : TypeId} {cs rest : List Value} {size : Nat} {e : E → List Value} {xs : List E} (hw : St w0 F w) (hm : blk b t cs ∈ F) (hl : ∀ x, (e x).length = size) (h0 : 0 < size) (hcs : cs = xs.flatMap e ++ rest) : Rd w (some ⟨b, 0, none⟩) size e xs :=
 (Sl.of_blkp (w0 := w0) (b := b) (t := t) (cs := cs) hl hcs).rd (F := F) (by intro c hc; simp at hc; subst hc; exact hm) hw (fun x h => by have := hl x; rw [h] at this; simp at this; omega)
end Go.K

namespace Go.K
open Go.RowKit
section
variable {P : Program} {l : List Value} {d : Option Tmp} {ty : TypeId} {ps : String} {af : Array Edge} {g : Option (Nat × Bool)}
def ik (P : Program) (t : TypeId) : Option IntKind := match P.underlying t with | some (.int k) => some k | _ => none
theorem ik_spec {t : TypeId} {k : IntKind} (h : ik P t = some k) : P.underlying t = some (.int k) := by
 unfold ik at h
 split at h
 ·rename_i k' hk; cases h; exact hk
 ·cases h
theorem conv_int {src dst : TypeId} {x : Operand} {k k' ks : IntKind} {n : Int} (hs : ik P src = some ks) (hd : ik P dst = some k') (hx : ev l x = .int k n) : Pure P ⟨d, .convert src dst x, ty, ps, af, g⟩ l (.int k' (k'.wrap n)) := fun w => by
 simp [execOp, hx, convert, Sem.run_bind, run_underlying (ik_spec hs) w, run_underlying (ik_spec hd) w, Conv.intToInt]
section
variable {xt yt : TypeId} {x y : Operand} {k k' : IntKind} {m n : Int}
theorem shr_int (hx : ev l x = .int k m) (hy : ev l y = .int k' n) (h0 : 0 ≤ n) : Pure P ⟨d, .binOp .shr xt x y yt, ty, ps, af, g⟩ l (.int k (m.fdiv (2 ^ min n.toNat k.bits))) := fun w => by
 have h1 : ¬ n < 0 := by omega
 simp [execOp, hx, hy, binOp, eqGuard, Op.shift, h1]
theorem shl_int (hx : ev l x = .int k m) (hy : ev l y = .int k' n) (h0 : 0 ≤ n) : Pure P ⟨d, .binOp .shl xt x y yt, ty, ps, af, g⟩ l (.int k (k.wrap (m * 2 ^ min n.toNat k.bits))) := fun w => by
 have h1 : ¬ n < 0 := by omega
 simp [execOp, hx, hy, binOp, eqGuard, Op.shift, h1]
theorem and_int (hx : ev l x = .int k m) (hy : ev l y = .int k n) : Pure P ⟨d, .binOp .and xt x y yt, ty, ps, af, g⟩ l (.int k (k.wrap (BitVec.ofInt k.bits m &&& BitVec.ofInt k.bits n).toNat)) := fun w => by
 simp [execOp, hx, hy, binOp, eqGuard, Op.intBits]
theorem add_wrap (hx : ev l x = .int k m) (hy : ev l y = .int k n) : Pure P ⟨d, .binOp .add xt x y yt, ty, ps, af, g⟩ l (.int k (k.wrap (m + n))) := fun w => by
 simp [execOp, hx, hy, binOp, eqGuard, Op.intArith]
end
end
end Go.K

namespace Go.K
open Go.RowKit
section
variable {P : Program} {l : List Value} {d : Option Tmp} {ty : TypeId} {ps : String} {af : Array Edge} {g : Option (Nat × Bool)} {xt yt : TypeId} {x y : Operand} {m n : Bool}
end
end Go.K

namespace Go.K
open Go.RowKit
section
variable {w0 : World} {L : List Chunk} {G : World → Prop}
end
end Go.K
end
section
namespace Go.R
open Go.RowKit Go.K
def fen (r : Option Nat) : Fence := { Fence.wide with round := r }
def frd (D : List Deferred) (l : List Value) : Act := { tmps := l.toArray, defers := D }
theorem frd_eval (D : List Deferred) (l : List Value) : (frd D l).eval = ev l := fr_eval l
theorem frd_put (D : List Deferred) (l : List Value) (d : Option Tmp) (v : Value) : (frd D l).put d v = frd D (setd l d v) := by
 have h := fr_put l d v
 cases d with
 | none => rfl
 | some d =>
  simp only [Act.put, fr, frd, setd] at h ⊢
  injection h with h1 _
  rw [h1]
theorem calls_fen {r : Option Nat} {n : Nat} {P : Program} {f : FuncId} {args : Array Value} {w : World} {R : Ending → World → Prop} (h : Calls P f args w R) : CallsIn (fen r) n P f args w R :=
 (callsIn_wide (n := n)).2 h
theorem fen_calls {n : Nat} {P : Program} {f : FuncId} {args : Array Value} {w : World} {R : Ending → World → Prop} (h : CallsIn (fen none) n P f args w R) : Calls P f args w R :=
 (callsIn_wide (n := n)).1 h
def noDef (o : Oper) : Bool := match o.op with | .defer _ => false | _ => true
def onlyN (D : List Deferred) (Q : Exit → Act → World → Prop) : Exit → Act → World → Prop
 | .normal, a, w => ∃ l, a = fr l ∧ Q .normal (frd D l) w
 | _, _, _ => False
theorem onlyN_lets {D : List Deferred} {Q : Exit → Act → World → Prop} : ¬ LetsOut (onlyN D Q) := fun ⟨_, _, h⟩ => h
def app (D : List Deferred) (a : Act) : Act := { a with defers := a.defers ++ D }
theorem app_eval (D : List Deferred) (a : Act) : (app D a).eval = a.eval := by funext x; cases x <;> rfl
theorem app_put (D : List Deferred) (a : Act) (d : Option Tmp) (v : Value) : (app D a).put d v = app D (a.put d v) := by cases d <;> rfl
theorem rows_fen {r : Option Nat} {n : Nat} {P : Program} {row : String} {args : Array Value} {w : World} {R : Value → World → Prop} (h : Rows P row args w R) : RowsIn (fen r) n P row args w R :=
 fun c cs _ => let ⟨v, w', h1, s⟩ := h c cs; ⟨v, w', h1, stepsIn_wide.2 s⟩
theorem op_in {r : Option Nat} {n : Nat} {P : Program} {o : Oper} {a : Act} {w : World} {D : List Deferred} {K : Act → World → Prop} {Q Q' : Exit → Act → World → Prop} {K' : Act → World → Prop} (hd : noDef o = true) (hK : ∀ a w, K a w → K' (app D a) w)
  (h : o.wp P a w K (onlyN D Q)) : o.wpIn (fen r) n P (app D a) w K' Q' := by
 refine ⟨fun _ _ => trivial, ?_⟩
 have hs : o.semAt (fen r).round (app D a).eval = execOp a.eval o := by
  rw [app_eval]
  cases r with
  | none => rfl
  | some l' => exact Oper.semAt_some l' a.eval o (fun c hc => by unfold noDef at hd; rw [hc] at hd; cases hd)
 rw [hs]
 unfold Oper.wp at h
 cases hr : (execOp a.eval o).run P w with
 | ok x w' =>
  rw [hr] at h
  cases x with
  | value v => rw [Oper.upon_value] at h; show K' ((app D a).put o.dst v) w'; rw [app_put]; exact hK _ _ h
  | skip => rw [Oper.upon_skip] at h; show K' ((app D a).put o.dst undef) w'; rw [app_put]; exact hK _ _ h
  | defer d =>
   have h1 : K ({ a with defers := d :: a.defers }.put o.dst undef) w' := h
   show K' ({ app D a with defers := d :: (app D a).defers }.put o.dst undef) w'
   have h2 := hK _ _ h1
   rw [← app_put] at h2
   exact h2
  | enter f args =>
   rw [Oper.upon_enter] at h
   refine ⟨fun h1 => (by cases h1), calls_fen (h.mono ?_)⟩
   intro e w'' he
   cases e with
   | returned v =>
    have he' : K (a.put o.dst v) w'' := he
    show K' ((app D a).put o.dst v) w''
    rw [app_put]; exact hK _ _ he'
   | panicked c => exact (show False from he).elim
   | outgrown => exact (onlyN_lets he).elim
  | row row args =>
   have h1 : Rows P row args w' fun v w'' => K (a.put o.dst v) w'' := h
   refine ⟨fun h1 => (by cases h1), (rows_fen h1).mono ?_⟩
   intro v w'' he
   show K' ((app D a).put o.dst v) w''
   rw [app_put]; exact hK _ _ he
  | _ => exact (show False from h).elim
 | halt x w' =>
  rw [hr] at h
  cases x <;> exact (show False from h).elim
theorem list_in {r : Option Nat} {n : Nat} {P : Program} {ops : Array Oper} {D : List Deferred} {Q : Exit → Act → World → Prop} : ∀ (lo : List Oper) (a : Act) (w : World), lo.all noDef = true → wpList P ops (onlyN D Q) lo a w → wpListIn (fen r) n P ops Q lo (app D a) w
 | [], a, w, _, h => by obtain ⟨l, rfl, hq⟩ := h; exact hq
 | o :: lo, a, w, hd, h => by
  simp only [List.all_cons, Bool.and_eq_true] at hd
  unfold wpList at h
  unfold wpListIn
  have hy : yielded ops (app D a).tmps = yielded ops a.tmps := rfl
  rw [hy]
  split
  ·rename_i hw
   rw [if_pos hw] at h
   rcases h with h | ⟨_, h⟩
   ·exact op_in hd.1 (fun a w => list_in lo a w hd.2) h
   ·exact (onlyN_lets h).elim
  ·rename_i hw
   rw [if_neg hw] at h
   refine ⟨fun _ _ => trivial, ?_⟩
   rw [app_put]
   exact list_in lo _ w hd.2 h
theorem any_in {r : Option Nat} {n : Nat} {P : Program} {ops : Array Oper} {D : List Deferred} {Q : Exit → Act → World → Prop} (hd : ops.toList.all noDef = true) : ∀ (fuel : Nat) (listed : Array Bool) (a : Act) (w : World), wpAny P .any ops (onlyN D Q) fuel listed a w → wpAnyIn (fen r) n P .any ops Q fuel listed (app D a) w
 | 0, listed, a, w, h => ⟨h.1, by obtain ⟨l, rfl, hq⟩ := h.2; exact hq⟩
 | fuel + 1, listed, a, w, h => by
  refine ⟨fun h0 => by obtain ⟨l, rfl, hq⟩ := h.1 h0; exact hq, fun i hi => ?_⟩
  have h1 := h.2 i hi
  unfold wpOp at h1
  unfold wpOpIn
  cases ho : ops[i]? with
  | none => rw [ho] at h1; exact any_in hd fuel _ _ _ h1
  | some o =>
   rw [ho] at h1
   have hdo : noDef o = true := List.all_eq_true.1 hd o (by
    have := Array.mem_of_getElem? ho
    simpa using this)
   have hy : yielded ops (app D a).tmps = yielded ops a.tmps := rfl
   simp only [hy] at h1 ⊢
   split
   ·rename_i hw
    simp only [hw, if_true] at h1
    rcases h1 with h1 | ⟨_, h1⟩
    ·exact op_in hdo (fun a w => any_in hd fuel _ a w) h1
    ·exact (onlyN_lets h1).elim
   ·rename_i hw
    rw [if_neg hw] at h1
    refine ⟨fun _ _ => trivial, ?_⟩
    rw [app_put]
    exact any_in hd fuel _ _ w h1
section
variable {r : Option Nat} {n : Nat} {P : Program} {w0 : World} {L : List Chunk} {D : List Deferred} {Q : Exit → Act → World → Prop} {l : List Value} {x y : Code} {id m : Nat} {c : Operand} {b : Bool}
theorem seq (k : Hold w0 L (x.wpIn (fen r) n P (Exit.then (y.wpIn (fen r) n P Q) Q) (frd D l))) : Hold w0 L ((Code.seq x y).wpIn (fen r) n P Q (frd D l)) := fun w hw => wpIn_seq (k w hw)
theorem skip (k : Hold w0 L (Q .normal (frd D l))) : Hold w0 L (Code.skip.wpIn (fen r) n P Q (frd D l)) := fun w hw => wpIn_skip (k w hw)
theorem label (k : Hold w0 L (Q .normal (frd D l))) : Hold w0 L ((Code.label m).wpIn (fen r) n P Q (frd D l)) := fun w hw => wpIn_label (k w hw)
theorem exit (k : Hold w0 L (Q (.exit id) (frd D l))) : Hold w0 L ((Code.exit id).wpIn (fen r) n P Q (frd D l)) := fun w hw => wpIn_exit (k w hw)
theorem ret (k : Hold w0 L (Q .ret (frd D l))) : Hold w0 L (Code.ret.wpIn (fen r) n P Q (frd D l)) := fun w hw => wpIn_ret (k w hw)
theorem block (k : Hold w0 L (x.wpIn (fen r) n P (Exit.inBlock id Q) (frd D l))) : Hold w0 L ((Code.block id x).wpIn (fen r) n P Q (frd D l)) := fun w hw => wpIn_block (k w hw)
theorem scope (k : Hold w0 L (x.wpIn (fen none) n P (Exit.noGoto Q) (frd D l))) : Hold w0 L ((Code.scope x).wpIn (fen none) n P Q (frd D l)) := fun w hw => (wpIn_wide (n := n)).2 (wp_scope_straight ((wpIn_wide (n := n)).1 (k w hw)))
theorem cond (hc : ev l c = .bool b) (kt : b = true → Hold w0 L (x.wpIn (fen r) n P Q (frd D l))) (kf : b = false → Hold w0 L (y.wpIn (fen r) n P Q (frd D l))) : Hold w0 L ((Code.cond c x y).wpIn (fen r) n P Q (frd D l)) :=
 fun w hw => wpIn_cond_split (t := b) (by rw [frd_eval]; exact hc) (fun h => kt h w hw) (fun h => kf h w hw)
theorem yA (hc : ev l c = .bool true) (kt : Hold w0 L (x.wpIn (fen r) n P Q (frd D l))) : Hold w0 L ((Code.cond c x y).wpIn (fen r) n P Q (frd D l)) := cond hc (fun _ => kt) (fun h => by cases h)
theorem oA (hc : ev l c = .bool false) (kf : Hold w0 L (y.wpIn (fen r) n P Q (frd D l))) : Hold w0 L ((Code.cond c x y).wpIn (fen r) n P Q (frd D l)) := cond hc (fun h => by cases h) (fun _ => kf)
theorem gA {lo : List Oper} (hd : lo.all noDef = true) (k : Hold w0 L (wpList P lo.toArray (onlyN D Q) lo (fr l))) : Hold w0 L ((Code.region id lo.toArray false).wpIn (fen r) n P Q (frd D l)) :=
 fun w hw => wpIn_region_lit (by have := list_in (r := r) (n := n) lo (fr l) w hd (k w hw); exact this)
theorem out (k : Hold w0 L (Q .normal (frd D l))) : Hold w0 L (onlyN D Q .normal (fr l)) := fun w hw => ⟨l, rfl, k w hw⟩
theorem draw_A {lo : List Oper} (A : List Chunk) (bl : List Nat) (hm : P.follows .mixedOrders = true) (hd : lo.all noDef = true) (k : DHold P w0 lo.toArray (onlyN D Q) A bl lo.length (Array.replicate lo.length false) l L) :
  Hold w0 L ((Code.region id lo.toArray true).wpIn (fen r) n P Q (frd D l)) := fun w hw => by
 have h1 := wpAny_noPanic _ _ _ _ (wpAny_of_U _ _ _ _ (k _ hw.drew))
 have h2 := any_in (r := r) (n := n) (by simpa using hd) _ _ _ _ h1
 refine wpIn_region_any hm ?_
 rw [List.size_toArray]
 exact h2
theorem nB {lo : List Oper} (bl : List Nat) (hm : P.follows .mixedOrders = true) (hd : lo.all noDef = true) (k : DHold P w0 lo.toArray (onlyN D Q) L bl lo.length (Array.replicate lo.length false) l L) : Hold w0 L ((Code.region id lo.toArray true).wpIn (fen r) n P Q (frd D l)) := draw_A L bl hm hd k
theorem draw_drop {lo : List Oper} (m : Nat) (bl : List Nat) (hm : P.follows .mixedOrders = true) (hd : lo.all noDef = true) (k : DHold P w0 lo.toArray (onlyN D Q) (L.drop m) bl lo.length (Array.replicate lo.length false) l L) : Hold w0 L ((Code.region id lo.toArray true).wpIn (fen r) n P Q (frd D l)) := draw_A (L.drop m) bl hm hd k
theorem zA {a : Act} (k : Hold w0 L (Q .normal a)) : Hold w0 L (Exit.inBlock id Q (.exit id) a) := fun w hw => by
 unfold Exit.inBlock
 simp only [if_true]
 exact k w hw
theorem exit_out {a : Act} {id' : Nat} (h : (id' == id) = false) (k : Hold w0 L (Q (.exit id') a)) : Hold w0 L (Exit.inBlock id Q (.exit id') a) := fun w hw => by
 have : id' ≠ id := by simpa using h
 unfold Exit.inBlock
 simp only [this, if_false]
 exact k w hw
theorem pA {a : Act} {K : Act → World → Prop} (k : Hold w0 L (Q (.exit id) a)) : Hold w0 L (Exit.then K Q (.exit id) a) := k
theorem qA {a : Act} (k : Hold w0 L (Q .ret a)) : Hold w0 L (Exit.inBlock id Q .ret a) := k
theorem iA {a : Act} {K : Act → World → Prop} (k : Hold w0 L (Q .ret a)) : Hold w0 L (Exit.then K Q .ret a) := k
theorem kA {a : Act} (k : Hold w0 L (Q .normal a)) : Hold w0 L (Exit.inBlock id Q .normal a) := k
theorem dA {a : Act} {K : Act → World → Prop} (k : Hold w0 L (K a)) : Hold w0 L (Exit.then K Q .normal a) := k
def RoundEnd (D : List Deferred) (w0 : World) (J : List Value → List Chunk → Prop) (μ : List Value → Nat) (wi wr : List Nat) (l0 vi : List Value) : Act → World → Prop :=
 fun a w => ∃ vi' vr' L'', a = frd D (setF vr' (setM l0 wi vi') wr) ∧ J vi' L'' ∧ μ vi' < μ vi ∧ St w0 L'' w
theorem loopW (wi wr : List Nat) (J : List Value → List Chunk → Prop) (μ : List Value → Nat) (h0 : J (wi.map (nth l)) L)
  (round : ∀ vi vr L', J vi L' → Hold w0 L' (x.wpIn (fen r) n P (Exit.then (RoundEnd D w0 J μ wi wr l vi) Q) (frd D (setF vr (setM l wi vi) wr)))) :
  Hold w0 L ((Code.loop x).wpIn (fen r) n P Q (frd D l)) := by
 intro w hw
 refine wpIn_loop_ghost (fun n a w => ∃ vi vr L', a = frd D (setF vr (setM l wi vi) wr) ∧ J vi L' ∧ μ vi = n ∧ St w0 L' w) _ ⟨_, nth l, L, by rw [setM_self, setF_self], h0, rfl, hw⟩ ?_
 rintro n a w ⟨vi, vr, L1, rfl, hJ, rfl, hst⟩
 refine wpIn_mono (round vi vr L1 hJ w hst) (fun e a' w' hq => ?_)
 cases e with
 | normal =>
  obtain ⟨vi', vr', L2, rfl, hJ', hlt, hst'⟩ := hq
  exact ⟨_, hlt, vi', vr', L2, rfl, hJ', rfl, hst'⟩
 | _ => exact hq
theorem rA {J : List Value → List Chunk → Prop} {μ : List Value → Nat} {wi wr : List Nat} {vi l0 : List Value} {L'' : List Chunk} (vi' : List Value) (hJ : J vi' L'') (hμ : μ vi' < μ vi) (hs : List.Sublist L'' L) (he : l = setF (nth l) (setM l0 wi vi') wr) :
  Hold w0 L (Exit.then (RoundEnd D w0 J μ wi wr l0 vi) Q .normal (frd D l)) := fun w hw =>
 ⟨vi', nth l, L'', by rw [← he], hJ, hμ, hw.sub hs⟩
end
end Go.R

namespace Go.R
open Go.RowKit Go.K
def obj (b : Nat) (o : Obj) : Chunk where
 foot := fun k => k = b
 holds := fun w => w.heap[b]? = some o
 loc := fun _ _ h hk => (hk b rfl).trans h
 live := fun _ k h hk => by subst hk; exact lt_of_some h
def nul : Chunk where
 foot := fun _ => False
 holds := fun _ => True
 loc := fun _ _ _ _ => trivial
 live := fun _ _ _ h => h.elim
def dfr (b : Nat) : Chunk := obj b (.deferred (some []))
def mark (b : Nat) : Deferred := { target := .collected b, args := #[] }
def Kept (f : Nat → Prop) (w w' : World) : Prop := ∀ i, i < w.heap.size → ¬ f i → w'.heap[i]? = w.heap[i]?
theorem Kept.refl (f : Nat → Prop) (w : World) : Kept f w w := fun _ _ _ => rfl
def Grew (f : Nat → Prop) (w : World) (f' : Nat → Prop) : Prop := ∀ i, f' i → f i ∨ w.heap.size ≤ i
def RoundOK {α : Type} (P : Program) (lr : Nat) (enc : α → Value) (XS : List α) (J Jx : Nat → (Nat → Prop) → World → Prop) : Prop :=
 ∀ k x f w, XS[k]? = some x → J k f w → YieldAt (fen none) 0 P lr #[enc x] w fun e w' => ∃ f', Grew f w f' ∧ Kept f w w' ∧ (∀ i, f' i → i < w'.heap.size) ∧ ((e = .returned (.bool true) ∧ J (k + 1) f' w') ∨ (e = .returned (.bool false) ∧ Jx (k + 1) f' w'))
def oth (B : Nat) (L : List Chunk) (W : World) : Chunk where
 foot := fun i => B ≤ i ∧ i < W.heap.size ∧ ¬ ∃ c ∈ L, c.foot i
 holds := fun w => ∀ i, B ≤ i → i < W.heap.size → (¬ ∃ c ∈ L, c.foot i) → w.heap[i]? = W.heap[i]?
 loc := fun w w' h hk i h1 h2 h3 => (hk i ⟨h1, h2, h3⟩).trans (h i h1 h2 h3)
 live := fun w i h hi => by
  have := h i hi.1 hi.2.1 hi.2.2
  rw [Array.getElem?_eq_getElem hi.2.1] at this
  exact (Array.getElem?_eq_some_iff.1 this).1
def both (c d : Chunk) : Chunk where
 foot := fun k => c.foot k ∨ d.foot k
 holds := fun w => c.holds w ∧ d.holds w
 loc := fun w w' h hk => ⟨c.loc w w' h.1 (fun k hc => hk k (.inl hc)), d.loc w w' h.2 (fun k hd => hk k (.inr hd))⟩
 live := fun w k h hk => hk.elim (c.live w k h.1) (d.live w k h.2)
def RP (w0 : World) (JL : Nat → List Chunk → Prop) (JX : Code → List Chunk → Prop) (k : Nat) (E : Chunk) : Exit → Act → World → Prop
 | .normal, _, w => ∃ L, JL (k + 1) L ∧ St w0 (L ++ [E]) w
 | .ret, _, w => ∃ L, JX .ret L ∧ St w0 (L ++ [E]) w
 | .exit id, _, w => ∃ L, JX (.exit id) L ∧ St w0 (L ++ [E]) w
 | _, _, _ => False
def Body (P : Program) (w0 : World) (JL : Nat → List Chunk → Prop) (JX : Code → List Chunk → Prop) (k lr : Nat) (body : Code) (E1 : Chunk) : Act → World → Prop :=
 fun a w => ∃ l2 L2, a = frd [] l2 ∧ St w0 (L2 ++ [E1]) w ∧ ∀ E, Hold w0 (L2 ++ [E]) (body.wpIn (fen (some lr)) 0 P (RP w0 JL JX k E) (frd [] l2))
theorem body {P : Program} {w0 : World} {JL : Nat → List Chunk → Prop} {JX : Code → List Chunk → Prop} {k lr : Nat} {b : Code} {E1 : Chunk} {l2 : List Value} {L2 : List Chunk}
  (h : ∀ E, Hold w0 (L2 ++ [E]) (b.wpIn (fen (some lr)) 0 P (RP w0 JL JX k E) (frd [] l2))) : Hold w0 (L2 ++ [E1]) (Body P w0 JL JX k lr b E1 (frd [] l2)) := fun _ hw => ⟨l2, L2, rfl, hw, h⟩
theorem rp_normal {w0 : World} {JL : Nat → List Chunk → Prop} {JX : Code → List Chunk → Prop} {k : Nat} {E : Chunk} {a : Act} {L L' : List Chunk} (h : JL (k + 1) L) (hs : List.Sublist (L ++ [E]) L') : Hold w0 L' (RP w0 JL JX k E .normal a) := fun _ hw => ⟨L, h, hw.sub hs⟩
theorem rp_ret {w0 : World} {JL : Nat → List Chunk → Prop} {JX : Code → List Chunk → Prop} {k : Nat} {E : Chunk} {a : Act} {L L' : List Chunk} (h : JX .ret L) (hs : List.Sublist (L ++ [E]) L') : Hold w0 L' (RP w0 JL JX k E .ret a) := fun _ hw => ⟨L, h, hw.sub hs⟩
theorem rp_exit {w0 : World} {JL : Nat → List Chunk → Prop} {JX : Code → List Chunk → Prop} {k id : Nat} {E : Chunk} {a : Act} {L L' : List Chunk} (h : JX (.exit id) L) (hs : List.Sublist (L ++ [E]) L') : Hold w0 L' (RP w0 JL JX k E (.exit id) a) := fun _ hw => ⟨L, h, hw.sub hs⟩
theorem st_snoc {w0 w : World} {L : List Chunk} {E : Chunk} (h : St w0 L w) (hE : E.holds w) (hb : ∀ k, E.foot k → w0.heap.size ≤ k) (hd : ∀ c ∈ L, ∀ k, c.foot k → ¬ E.foot k) : St w0 (L ++ [E]) w :=
 ⟨h.1, fun c hc => by
  rcases List.mem_append.1 hc with hc | hc
  ·exact h.2.1 c hc
  ·simp at hc; subst hc; exact ⟨hE, hb⟩, List.pairwise_append.2 ⟨h.2.2, by simp, fun c hc d hd' k hk => by simp at hd'; subst hd'; exact hd c hc k hk⟩⟩
theorem st_front {w0 w : World} {L : List Chunk} {E : Chunk} (h : St w0 (L ++ [E]) w) : St w0 L w ∧ E.holds w ∧ (∀ k, E.foot k → w0.heap.size ≤ k) ∧ ∀ c ∈ L, ∀ k, c.foot k → ¬ E.foot k :=
 ⟨h.sub (by simp), (h.2.1 E (by simp)).1, (h.2.1 E (by simp)).2, fun c hc k hk => (List.pairwise_append.1 h.2.2).2.2 c hc E (by simp) k hk⟩
theorem st_below {w0 w w' : World} {L : List Chunk} (h : St w0 L w) (hb : Below w.heap.size w w') : St w0 L w' :=
 h.keep (hb.mono h.1.size) (fun c hc k hk => hb.block k (h.lt hc hk))
theorem st_put {w0 w : World} {L : List Chunk} {E E' : Chunk} {b : Nat} {o : Obj} (h : St w0 (L ++ [E]) w) (hb : E.foot b) (hE : E'.holds (w.putObj b o)) (hf : ∀ k, E'.foot k → E.foot k) : St w0 (L ++ [E']) (w.putObj b o) :=
 h.upd (row := some b) ⟨L, [], rfl, rfl⟩ (grownBy_putObj' w b o) (fun k hk => by cases hk; exact hb) hE (fun k hk => .inl (hf k hk))
def foots (L : List Chunk) : Nat → Prop := fun i => ∃ c ∈ L, c.foot i
theorem wide_seq {n : Nat} {P : Program} {c : Code} {r : Option Nat} {Q Q' : Exit → Act → World → Prop} {a : Act} {w : World} (h : c.wpIn (fen r) n P Q a w) (hq : ∀ e a w, Q e a w → Q' e a w) : c.wpIn (fen r) n P Q' a w := Go.wpIn_mono h hq
end Go.R

namespace Go.R
open Go.RowKit Go.K
section
variable {P : Program} {w0 : World} {L : List Chunk} {l : List Value} {R : Ending → World → Prop} {fn : Func} {v : Value} {b : Nat}
theorem enter {f : FuncId} {c : Code} {args : List Value} {m : Nat} {w : World} (hf : P.funcs[f]? = some fn) (hb : fn.body = some c) (hn : fn.ntmps - args.length = m)
  (k : Hold w [] (c.wpIn (fen none) 0 P (bodyPostM (fen none) 0 P fn R) (frd [] (args ++ List.replicate m undef)))) : Calls P f args.toArray w R := by
 refine fen_calls (n := 0) (callsIn_of_wp_marks hf hb trivial ?_)
 have h1 := k w (St.start w)
 subst hn
 have e : ({ tmps := args.toArray ++ Array.replicate (fn.ntmps - args.toArray.size) undef, defers := [] } : Act) = frd [] (args ++ List.replicate (fn.ntmps - args.length) undef) := by
  simp [frd]
 rw [e]; exact h1
theorem wA (hr : ∀ w, St w0 L w → (results fn l.toArray).run P w = .ok v w) (k : Hold w0 L (R (.returned v))) : Hold w0 L (bodyPostM (fen none) 0 P fn R .ret (frd [] l)) := fun w hw => ⟨v, hr w hw, k w hw⟩
theorem end_normal (hr : ∀ w, St w0 L w → (results fn l.toArray).run P w = .ok v w) (k : Hold w0 L (R (.returned v))) : Hold w0 L (bodyPostM (fen none) 0 P fn R .normal (frd [] l)) := fun w hw => ⟨v, hr w hw, k w hw⟩
theorem leaves (hr : ∀ w, St w0 L w → (results fn l.toArray).run P w = .ok v w) (k : Hold w0 L (R (.returned v))) (w : World) (hw : St w0 (L ++ [dfr b]) w) : LeavesInM (fen none) 0 P fn l.toArray R [mark b] .returning w := by
 have h1 : w.heap[b]? = some (.deferred (some [])) := (st_front hw).2.1
 have h2 := st_front (st_put (E' := nul) (o := .deferred none) hw (b := b) rfl trivial (fun _ h => h.elim))
 exact ⟨by simp, .inl ⟨b, _, rfl, run_takeDeferred h1, v, hr _ h2.1, k _ h2.1⟩⟩
theorem end_ret1 {L' : List Chunk} (hL : L' = L'.dropLast ++ [dfr b]) (hr : ∀ w, St w0 L'.dropLast w → (results fn l.toArray).run P w = .ok v w) (k : Hold w0 L'.dropLast (R (.returned v))) : Hold w0 L' (bodyPostM (fen none) 0 P fn R .ret (frd [mark b] l)) := by
 rw [hL]; exact leaves hr k
def Keep (f : Nat → Prop) (w : World) (f' : Nat → Prop) (w' : World) : Prop := ∀ i, i < w.heap.size → ¬ f i → ¬ f' i ∧ w'.heap[i]? = w.heap[i]?
theorem Keep.of {f f' : Nat → Prop} {w w' : World} (h1 : Grew f w f') (h2 : Kept f w w') : Keep f w f' w' := fun i hi hf => ⟨fun h => by
 rcases h1 i h with h | h
 ·exact hf h
 ·omega, h2 i hi hf⟩
theorem lt_of_same {w w' : World} {i : Nat} (hi : i < w.heap.size) (h : w'.heap[i]? = w.heap[i]?) : i < w'.heap.size := by
 rw [Array.getElem?_eq_getElem hi] at h; exact lt_of_some h
theorem Keep.trans {f f' f'' : Nat → Prop} {w w' w'' : World} (h1 : Keep f w f' w') (h2 : Keep f' w' f'' w'') : Keep f w f'' w'' := fun i hi hf => by
 obtain ⟨a1, a2⟩ := h1 i hi hf
 obtain ⟨b1, b2⟩ := h2 i (lt_of_same hi a2) a1
 exact ⟨b1, b2.trans a2⟩
theorem Keep.below {f : Nat → Prop} {w w' : World} (h : Below w.heap.size w w') : Keep f w f w' := fun i hi hf => ⟨hf, h.block i hi⟩
def Own1 (f : Nat → Prop) (w : World) (p : Addr) (us : List Value) : Prop := p.block < w.heap.size ∧ ¬ f p.block ∧ ∀ j u, us[j]? = some u → w.cell? (p.add j) = some u
theorem Own1.ptr {f : Nat → Prop} {w : World} {p : Addr} {us : List Value} (h : Own1 f w p us) : PtrL w [] p us := PtrL.old h.1 h.2.2
theorem Own1.keep {f f' : Nat → Prop} {w w' : World} {p : Addr} {us : List Value} (h : Own1 f w p us) (hk : Keep f w f' w') : Own1 f' w' p us := by
 obtain ⟨a1, a2⟩ := hk _ h.1 h.2.1
 refine ⟨lt_of_same h.1 a2, a1, fun j u hu => ?_⟩
 rw [← h.2.2 j u hu]
 exact World.cell?_of_block (by rw [addr_block]; exact a2)
theorem Own1.blk {f : Nat → Prop} {w0 w : World} {L : List Chunk} {b : Nat} {t : TypeId} {cs : List Value} (hw : St w0 L w) (hm : blk b t cs ∈ L) (hf : ∀ i, f i → i < w0.heap.size) : Own1 f w ⟨b, 0, none⟩ cs := by
 have h1 := hw.2.1 _ hm
 refine ⟨hw.lt hm rfl, fun h => ?_, fun j u hu => ?_⟩
 ·have := h1.2 b rfl
  have := hf b h
  omega
 ·rw [add_lit, Nat.zero_add]; exact cell_now hw hm hu
end
section
variable {r : Option Nat} {n : Nat} {P : Program} {w0 : World} {L : List Chunk} {D : List Deferred} {ops : Array Oper} {Q : Exit → Act → World → Prop} {rest : List Oper} {l : List Value} {o : Oper} {v : Value} {id : Nat}
theorem lregion {lo : List Oper} (k : Hold w0 L (wpListIn (fen r) n P lo.toArray Q lo (frd D l))) : Hold w0 L ((Code.region id lo.toArray false).wpIn (fen r) n P Q (frd D l)) := fun w hw => wpIn_region_lit (k w hw)
theorem lseq_nil (k : Hold w0 L (Q .normal (frd D l))) : Hold w0 L (wpListIn (fen r) n P ops Q [] (frd D l)) := k
theorem lseq_op {Rr : World → Value → World → Prop} (hd : noDef o = true) (hg : wantL ops.toList l o.guard = true) (h : ∀ w, St w0 L w → OpT P o l w (Rr w))
  (k : ∀ w, St w0 L w → ∀ v w', Rr w v w' → wpListIn (fen r) n P ops Q rest (frd D (setd l o.dst v)) w') : Hold w0 L (wpListIn (fen r) n P ops Q (o :: rest) (frd D l)) := by
 intro w hw
 unfold wpListIn
 have hy : Region.wanted o (yielded ops (frd D l).tmps) = wantL ops.toList l o.guard := wanted_eq ops l o
 rw [if_pos (by rw [hy]; exact hg)]
 refine op_in (D := D) (Q := fun _ _ _ => True) (K := fun a w' => ∃ v, Rr w v w' ∧ a = fr (setd l o.dst v)) hd ?_ (h w hw _ _ (fun v w' hR => ⟨v, hR, rfl⟩))
 rintro a w' ⟨v, hR, rfl⟩
 exact k w hw v w' hR
theorem jB (h : Pure P o l v) (hd : noDef o = true) (hg : wantL ops.toList l o.guard = true) (k : Hold w0 L (wpListIn (fen r) n P ops Q rest (frd D (setd l o.dst v)))) : Hold w0 L (wpListIn (fen r) n P ops Q (o :: rest) (frd D l)) :=
 lseq_op (Rr := fun w v' w' => v' = v ∧ w' = w) hd hg (fun w _ => OpT.of_run (h w) ⟨rfl, rfl⟩) (fun w hw _ _ ⟨hv, hw'⟩ => by subst hv; subst hw'; exact k _ hw)
theorem lseq_sil (h : Sil P w0 L o l v) (hd : noDef o = true) (hg : wantL ops.toList l o.guard = true) (k : Hold w0 L (wpListIn (fen r) n P ops Q rest (frd D (setd l o.dst v)))) : Hold w0 L (wpListIn (fen r) n P ops Q (o :: rest) (frd D l)) :=
 lseq_op (Rr := fun w v' w' => v' = v ∧ w' = w) hd hg (fun w hw => OpT.of_run (h L w (fun _ h => h) hw) ⟨rfl, rfl⟩) (fun w hw _ _ ⟨hv, hw'⟩ => by subst hv; subst hw'; exact k _ hw)
theorem round_fen {m m' : Nat} {r' : Option Nat} {lr : Nat} {f : FuncId} {tmps : Array Value} {assign body : Code} {w : World} {R : Ending → World → Prop} (h : RoundIn (fen r) m P lr f tmps assign body w R) : RoundIn (fen r') m' P lr f tmps assign body w R :=
 ⟨trivial, fun c cs _ => h.2 c cs (fun _ h => by cases h)⟩
end
section
variable {w0 : World} {L : List Chunk} {Q : Exit → Act → World → Prop} {a : Act} {id : Nat}
theorem ng_ret (k : Hold w0 L (Q .ret a)) : Hold w0 L (Exit.noGoto Q .ret a) := k
end
end Go.R
namespace Go.K
open Go.RowKit
theorem res_cc {P : Program} {l : List Value} {fn : Func} {p q : Tmp} {ty ty' : TypeId} {b b' : Nat} {v v' : Value} (h : fn.results = #[.cell p ty, .cell q ty']) (hp : nth l p = .pointer (some ⟨b, 0, none⟩)) (hq : nth l q = .pointer (some ⟨b', 0, none⟩)) {w : World} (hv : (loadVar ty ⟨b, 0, none⟩).run P w = .ok v w) (hv' : (loadVar ty' ⟨b', 0, none⟩).run P w = .ok v' w) :
  (results fn l.toArray).run P w = .ok (.tuple #[v, v']) w := by
 have hp' : l.toArray[p]?.getD undef = .pointer (some ⟨b, 0, none⟩) := by rw [← hp, mC]; simp
 have hq' : l.toArray[q]?.getD undef = .pointer (some ⟨b', 0, none⟩) := by rw [← hq, mC]; simp
 simp at hp' hq'
 simp [results, h, hp', hq', asAddr, hv, hv']
end Go.K
end
section
namespace Go.K
open Go.RowKit
theorem grownBy_setMap (w : World) (b : Nat) (o : Obj) : w.grownBy { w with heap := w.heap.setIfInBounds b o } (some b) :=
 ⟨rfl, rfl, rfl, by simp, fun k _ hne => by
  have h : ¬ b = k := fun e => hne (by rw [e])
  simp [Array.getElem?_setIfInBounds, h]⟩
theorem map_set {w : World} {b : Nat} {o o' : Obj} (h : w.heap[b]? = some o) : ({ w with heap := w.heap.setIfInBounds b o' } : World).heap[b]? = some o' := by
 have := lt_of_some h
 simp [Array.getElem?_setIfInBounds, this]
section
variable {P : Program} {w0 : World} {L L' : List Chunk} {l : List Value} {d : Option Tmp} {ty : TypeId} {ps : String} {af : Array Edge} {g : Option (Nat × Bool)}
structure MapT (P : Program) (t kt : TypeId) : Prop where
 u : ∃ e, P.underlying t = some (.map kt e) ∧ (∀ w, (zeroValue e).run P w = .ok (.int .i64 0) w)
 law : WideMaps.KeyLaw P kt
variable {t kt b : Nat} {ks : List Value} {key : Value} {bo : Option Nat}
theorem modify_same {es : Array MapEntry} {j : Nat} {e0 : MapEntry} {key : Value} (he : es.toList[j]? = some e0) (hk : e0.key = key) : es.modify j (fun e => { e with key := key }) = es := by
 apply Array.ext'
 apply List.ext_getElem?
 intro i
 simp only [Array.toList_modify, List.getElem?_modify]
 split
 ·rename_i h; subst h
  rw [he]; cases e0; simp at hk; simp [hk]
 ·simp
end
end Go.K

namespace Go.K
open Go.RowKit
section
variable {P : Program} {w0 : World} {L A : List Chunk} {ops : Array Oper} {Q : Exit → Act → World → Prop} {l : List Value} {o : Oper} {v : Value} {id i fuel : Nat} {bl : List Nat} {listed : Array Bool}
def DStep (P : Program) (w0 : World) (ops : Array Oper) (Q : Exit → Act → World → Prop) (A : List Chunk) (bl : List Nat) (fuel : Nat) (listed : Array Bool) (l : List Value) (L : List Chunk) (i : Nat) : Prop :=
 ∀ w, St w0 L w → wpOp P ops (noPanic Q) i (fun a' w' => (bl.contains i = false → Keeps w0 A w → Keeps w0 A w') ∧ wpAnyU P ops (noPanic Q) (Keeps w0 A) (fun j => bl.contains j) fuel (listed.setIfInBounds i true) a' w') (fr l) w
theorem d_two (i j : Nat) (hr : Region.ready .any ops listed = [i, j]) (h1 : DStep P w0 ops Q A bl fuel listed l L i) (h2 : DStep P w0 ops Q A bl fuel listed l L j) : DHold P w0 ops Q A bl (fuel + 1) listed l L := fun w hw => by
 refine ⟨fun h0 => (by rw [hr] at h0; cases h0), fun k hk => ?_⟩
 rw [hr] at hk
 simp at hk
 rcases hk with rfl | rfl
 ·exact h1 w hw
 ·exact h2 w hw
theorem s_op {R : World → Value → World → Prop} (i : Nat) (ho : nthP ops.toList i = some o) (hg : wantL ops.toList l o.guard = true) (h : ∀ w, St w0 L w → OpT P o l w (R w))
  (hS : ∀ w, St w0 L w → ∀ v w', R w v w' → bl.contains i = true ∨ Keeps w0 A w')
  (k : ∀ w, St w0 L w → ∀ v w', R w v w' → wpAnyU P ops (noPanic Q) (Keeps w0 A) (fun j => bl.contains j) fuel (listed.setIfInBounds i true) (fr (setd l o.dst v)) w') : DStep P w0 ops Q A bl fuel listed l L i := fun w hw => by
 have ho' := opAt ho
 have hg' : Region.wanted o (yielded ops (fr l).tmps) = true := by rw [wanted_eq]; exact hg
 unfold wpOp
 simp only [ho', hg', if_true]
 refine .inl (h w hw _ _ fun v w' hR => ⟨fun hb _ => ?_, k w hw v w' hR⟩)
 rcases hS w hw v w' hR with h1 | h1
 ·simp only [h1] at hb; cases hb
 ·exact h1
theorem s_loud {ρ : Type} {ok : ρ → Prop} {val : ρ → Value} {D : ρ → List Chunk} (i : Nat) (ho : nthP ops.toList i = some o) (h : Loud P w0 L o l ok val D) (hA : ∀ c ∈ A, c ∈ L) (_ : true = true) (hg : wantL ops.toList l o.guard = true)
  (k : ∀ r, ok r → DHold P w0 ops Q A bl fuel (listed.setIfInBounds i true) (setd l o.dst (val r)) (D r ++ L)) : DStep P w0 ops Q A bl fuel listed l L i :=
 s_op i ho hg (fun w hw => h L w (fun _ h => h) hw) (fun _ _ _ _ ⟨r, _, _, hst⟩ => .inr ⟨_, fun c hc => List.mem_append_right _ (hA c hc), hst⟩) (fun _ _ v w' ⟨r, hr, hv, hst⟩ => by subst hv; exact k r hr w' hst)
theorem s_call (i : Nat) (ho : nthP ops.toList i = some o) (h : Loud P w0 L o l (fun _ : Unit => True) (fun _ => v) (fun _ => [])) (hA : ∀ c ∈ A, c ∈ L) (hr : true = true) (hg : wantL ops.toList l o.guard = true)
  (k : DHold P w0 ops Q A bl fuel (listed.setIfInBounds i true) (setd l o.dst v) L) : DStep P w0 ops Q A bl fuel listed l L i :=
 s_loud i ho h hA hr hg fun _ _ => k
theorem s_new {val : Nat → Value} {D : Nat → List Chunk} (i : Nat) (ho : nthP ops.toList i = some o) (h : Loud P w0 L o l (fun _ : Nat => True) val D) (hA : ∀ c ∈ A, c ∈ L) (hr : true = true) (hg : wantL ops.toList l o.guard = true)
  (k : ∀ b, DHold P w0 ops Q A bl fuel (listed.setIfInBounds i true) (setd l o.dst (val b)) (D b ++ L)) : DStep P w0 ops Q A bl fuel listed l L i :=
 s_loud i ho h hA hr hg fun b _ => k b
theorem s_last {ρ : Type} {ok : ρ → Prop} {val : ρ → Value} {L' : ρ → List Chunk} (i : Nat) (ho : nthP ops.toList i = some o) (h : Upd P w0 L o l ok val L') (hB : bl.contains i = true) (_ : true = true) (hg : wantL ops.toList l o.guard = true)
  (k : ∀ r, ok r → DHold P w0 ops Q A bl fuel (listed.setIfInBounds i true) (setd l o.dst (val r)) (L' r)) : DStep P w0 ops Q A bl fuel listed l L i :=
 s_op i ho hg (fun w hw => h w hw) (fun _ _ _ _ _ => .inl hB) (fun _ _ v w' ⟨r, hr, hv, hst⟩ => by subst hv; exact k r hr w' hst)
theorem draw_take {lo : List Oper} (m : Nat) (bl : List Nat) (hm : P.follows .mixedOrders = true) (k : DHold P w0 lo.toArray Q (L.take m) bl lo.length (Array.replicate lo.length false) l L) : Hold w0 L ((Code.region id lo.toArray true).wp P Q (fr l)) := draw_lit (L.take m) bl hm k
end
end Go.K

namespace Go.K
open Go.RowKit
section
variable {P : Program} {w0 : World} {L : List Chunk} {l : List Value} {x y : Code} {Q : Exit → Act → World → Prop}
def joinQ (w0 : World) (l : List Value) (wi wr : List Nat) (J : List Value → List Chunk → Prop) (Q : Exit → Act → World → Prop) : Exit → Act → World → Prop
 | .normal, a, w => ∃ vi vr L', a = fr (setF vr (setM l wi vi) wr) ∧ J vi L' ∧ St w0 L' w
 | e, a, w => Q e a w
theorem joinW (wi wr : List Nat) (J : List Value → List Chunk → Prop) (k1 : Hold w0 L (x.wp P (joinQ w0 l wi wr J Q) (fr l)))
  (k2 : ∀ vi vr L', J vi L' → Hold w0 L' (Q .normal (fr (setF vr (setM l wi vi) wr)))) : Hold w0 L (x.wp P Q (fr l)) := fun w hw =>
 wp_mono (k1 w hw) (fun e a' w' hq => by
  cases e with
  | normal => obtain ⟨vi, vr, L', rfl, hJ, hst⟩ := hq; exact k2 vi vr L' hJ w' hst
  | _ => exact hq)
theorem sB {l0 : List Value} {wi wr : List Nat} {J : List Value → List Chunk → Prop} {L' : List Chunk} (vi : List Value) (hJ : J vi L') (hs : ∀ w, St w0 L w → St w0 L' w) (he : l = setF (nth l) (setM l0 wi vi) wr) :
  Hold w0 L (joinQ w0 l0 wi wr J Q .normal (fr l)) := fun w hw => ⟨vi, nth l, L', by rw [← he], hJ, hs w hw⟩
theorem st_sub {L' : List Chunk} (hs : List.Sublist L' L) : ∀ w, St w0 L w → St w0 L' w := fun _ h => h.sub hs
theorem st_perm {L' : List Chunk} (hp : L.Perm L') : ∀ w, St w0 L w → St w0 L' w := fun _ h => h.perm hp
end
end Go.K

namespace Go.K
open Go.RowKit
section
variable {P : Program} {w0 : World} {L A' M : List Chunk} {ops : Array Oper} {Q : Exit → Act → World → Prop} {l : List Value} {id fuel : Nat} {bl : List Nat} {listed : Array Bool} {d : Option Tmp} {ty : TypeId} {ps : String} {af : Array Edge} {g : Option (Nat × Bool)}
theorem use_rowc {A : Option Addr} {n c size : Nat} {t : TypeId} {ys : List Value} {G : World → Prop} (hm : row (.slice A n c) t size n ys ∈ L) (k : (n = 0 ∨ ∃ b, A = some ⟨b, 0, none⟩) → n ≤ c → Hold w0 L G) : Hold w0 L G := fun w hw => by
 have ho : w.ownsRow 0 t size (.slice A n c) n ys := (hw.2.1 _ hm).1
 refine k ?_ ?_ w hw
 ·rcases Nat.eq_zero_or_pos n with h0 | h0
  ·exact .inl h0
  ·obtain ⟨b, cap, hv, _⟩ := ho.form h0
   refine .inr ⟨b, ?_⟩
   injection hv
 ·rcases ho.2 with ⟨h, hn⟩ | ⟨gg, cap, cur, h, _, _, h2, _⟩
  ·omega
  ·injection h with _ _ h; omega
end
end Go.K

namespace Go.K
open Go.RowKit
section
variable {w0 : World} {L : List Chunk} {G : World → Prop}
theorem blk_row {b t n size : Nat} {xs : List Value} (hl : xs.length = n * size) (hn : n ≤ maxLen) (k : Hold w0 (row (.slice (some ⟨b, 0, none⟩) n n) t size n xs :: L) G) : Hold w0 (blk b t xs :: L) G := fun w hw => by
 refine k w ⟨hw.1, fun c hc => ?_, ?_⟩
 ·rcases List.mem_cons.1 hc with rfl | hc
  ·have h := hw.2.1 (blk b t xs) (by simp)
   exact ⟨⟨hl, .inr ⟨b, n, xs.toArray, rfl, Nat.zero_le _, h.1, Nat.le_refl _, hn, by simpa using hl, by simp [← hl]⟩⟩, fun k hk => h.2 k (by
    have : b = k := by simpa [row, Value.ownBlock] using hk
    exact this.symm)⟩
  ·exact hw.2.1 c (List.mem_cons_of_mem _ hc)
 ·have h := List.pairwise_cons.1 hw.2.2
  exact List.pairwise_cons.2 ⟨fun c hc k hk => h.1 c hc k (by
    have : b = k := by simpa [row, Value.ownBlock] using hk
    exact this.symm), h.2⟩
end
end Go.K
end
section
namespace Go.K
open Go.RowKit
def sit (b : Nat) (s : ByteArray) (p : Nat) : Chunk where
 foot := fun k => k = b
 holds := fun w => w.heap[b]? = some (.stringIter s p)
 loc := fun _ _ h hk => (hk b rfl).trans h
 live := fun _ k h hk => by subst hk; exact lt_of_some h
theorem grownBy_setAt (w : World) (b : Nat) (o : Obj) : w.grownBy { w with heap := w.heap.setIfInBounds b o } (some b) :=
 ⟨rfl, rfl, rfl, by simp, fun k _ hne => by
  have h : ¬ b = k := fun e => hne (by rw [e])
  simp [Array.getElem?_setIfInBounds, h]⟩
theorem at_set {w : World} {b : Nat} {o o' : Obj} (h : w.heap[b]? = some o) : ({ w with heap := w.heap.setIfInBounds b o' } : World).heap[b]? = some o' := by
 have := lt_of_some h
 simp [Array.getElem?_setIfInBounds, this]
theorem run_getSit {P : Program} {w : World} {b p : Nat} {s : ByteArray} (h : w.heap[b]? = some (.stringIter s p)) : (getObj b).run P w = .ok (.stringIter s p) w := by
 simp [getObj, Sem.run, h]
theorem run_setSit {P : Program} {w : World} {b p : Nat} {s : ByteArray} (o : Obj) (h : w.heap[b]? = some (.stringIter s p)) : (setObj b o).run P w = .ok () { w with heap := w.heap.setIfInBounds b o } := by
 simp [setObj, Sem.run, h]
section
variable {P : Program} {w0 : World} {L L' : List Chunk} {l : List Value} {d : Option Tmp} {ty : TypeId} {ps : String} {af : Array Edge} {g : Option (Nat × Bool)}
theorem rangeS {t : TypeId} {x : Operand} {s : ByteArray} (ht : sT P t = true) (hx : ev l x = .string s) : Loud P w0 L ⟨d, .range t x, ty, ps, af, g⟩ l (fun _ : Nat => True) (fun b => .pointer (some ⟨b, 0, none⟩)) (fun b => [sit b s 0]) := fun F w _ hw => by
 refine OpT.of_run (w' := w.alloc (.stringIter s 0)) ?_ ⟨w.heap.size, trivial, rfl, hw.add (D := [sit w.heap.size s 0]) ((Below.refl _ _).alloc (Nat.le_refl _) _) (own_one (heap_alloc_new w _) (fun k hk => by cases hk; exact Nat.le_refl _))⟩
 simp [execOp, hx, Instr.range, run_underlying (sT_spec ht), Result.andThen]
variable {x : Operand} {b p : Nat} {s : ByteArray}
theorem nextS_more (hx : ev l x = .pointer (some ⟨b, 0, none⟩)) (hp : p < s.size) (hr : Rep (sit b s p) (sit b s (p + (Utf8.decode s p).2)) L L') :
  Upd P w0 L ⟨d, .next x true, ty, ps, af, g⟩ l (fun _ : Unit => True) (fun _ => .tuple #[.bool true, .int .i64 (p : Int), .int .i32 ((Utf8.decode s p).1 : Nat)]) (fun _ => L') := fun w hw => by
 have h1 : w.heap[b]? = some (.stringIter s p) := (hw.2.1 _ hr.mem).1
 refine OpT.of_run (w' := { w with heap := w.heap.setIfInBounds b (.stringIter s (p + (Utf8.decode s p).2)) }) ?_ ⟨(), trivial, rfl, ?_⟩
 ·simp [execOp, hx, Instr.next, run_getSit h1, run_setSit _ h1, hp, goInt, Result.andThen]
 ·exact hw.upd hr (grownBy_setAt w b _) (fun k hk => by cases hk; rfl) (at_set h1) (fun k hk => .inl hk)
theorem nextS_over (hx : ev l x = .pointer (some ⟨b, 0, none⟩)) (hp : ¬ p < s.size) (hm : sit b s p ∈ L) :
  Sil P w0 L ⟨d, .next x true, ty, ps, af, g⟩ l (.tuple #[.bool false]) := fun F w hF hw => by
 have h1 : w.heap[b]? = some (.stringIter s p) := (hw.2.1 _ (hF _ hm)).1
 simp [execOp, hx, Instr.next, run_getSit h1, hp, goInt, Result.andThen]
def bt (s : ByteArray) (k : Nat) : Int := ((s.get! k).toNat : Int)
theorem get_opt {k : Nat} (h : k < s.size) : s[k]? = some (s.get! k) := by
 have h' : k < s.data.size := h
 simp [ByteArray.get!, getElem?_pos, h, h']; rfl
theorem len_s {t : TypeId} (ht : sT P t = true) (hx : ev l x = .string s) : Pure P ⟨d, .call { callee := .builtin .len, args := #[x], argTypes := #[t] }, ty, ps, af, g⟩ l (.int .i64 (s.size : Nat)) := fun w => by
 simp [execOp, resolve, invoke, builtin, hx, Builtin.len_, Sem.run_bind, run_underlying (sT_spec ht) w, goInt]
theorem index_s {t : TypeId} {y : Operand} {k : IntKind} {z : Int} {m : Nat} (ht : sT P t = true) (hx : ev l x = .string s) (hy : ev l y = .int k z) (hz : z = (m : Int)) (h1 : m < s.size) : Pure P ⟨d, .index t x y, ty, ps, af, g⟩ l (.int .u8 (bt s m)) := fun w => by
 subst hz
 simp [execOp, hx, hy, Instr.index, asIntOf, Sem.run_bind, run_underlying (sT_spec ht) w, get_opt h1, bt]
theorem rC {xt yt : TypeId} {y : Operand} {r : ByteArray} (hx : ev l x = .string s) (hy : ev l y = .string r) : Pure P ⟨d, .binOp .eql xt x y yt, ty, ps, af, g⟩ l (.bool (s.toList == r.toList)) := fun w => by
 simp [execOp, hx, hy, binOp, eqGuard, Op.stringOp]
theorem neq_s {xt yt : TypeId} {y : Operand} {r : ByteArray} (hx : ev l x = .string s) (hy : ev l y = .string r) : Pure P ⟨d, .binOp .neq xt x y yt, ty, ps, af, g⟩ l (.bool !(s.toList == r.toList)) := fun w => by
 simp [execOp, hx, hy, binOp, eqGuard, Op.stringOp]
theorem decode_lo (h : bt s p < 128) : Utf8.decode s p = ((s.get! p).toNat, 1) := by
 unfold bt at h
 have h' : (s.get! p).toNat < 128 := by omega
 simp [Utf8.decode, h']
theorem decode_hi (h : ¬ bt s p < 128) : 128 ≤ (Utf8.decode s p).1 := by
 unfold bt at h
 have h' : ¬ (s.get! p).toNat < 128 := by omega
 unfold Utf8.decode
 simp only [Nat.add_zero, h', if_false, Utf8.runeError]
 split
 ·split <;> simp only <;> omega
 ·split
  ·split
   ·rename_i h1; simp only [Bool.and_eq_true, decide_eq_true_eq] at h1; simp only; omega
   ·simp
  ·split
   ·split
    ·rename_i h1; simp only [Bool.and_eq_true, decide_eq_true_eq] at h1; simp only; omega
    ·simp
   ·simp
end
end Go.K

namespace Go.K
open Go.RowKit
def mq (b : Nat) (bo : Option (Nat × Nat)) (kvs : List (Value × Int)) : Chunk where
 foot := fun k => k = b
 holds := fun w => ∃ es clock, w.heap[b]? = some (.map es clock) ∧ es.toList.map (fun e => (e.key, e.val)) = kvs.map (fun p => (p.1, Value.int .i64 p.2)) ∧ (es.toList.map (·.born)).Nodup ∧ (∀ e ∈ es.toList, e.born < clock) ∧ ∀ x, bo = some x → ∃ e, es.toList[x.2]? = some e ∧ e.born = x.1
 loc := fun w w' h hk => by
  obtain ⟨es, clock, h1, h2⟩ := h
  exact ⟨es, clock, (hk b rfl).trans h1, h2⟩
 live := fun _ k h hk => by
  subst hk
  obtain ⟨es, clock, h1, _⟩ := h
  exact lt_of_some h1
def entQ (kvs : List (Value × Int)) (key : Value) (j : Nat) : List (Value × Int) := if j < kvs.length then kvs else kvs ++ [(key, 0)]
section
variable {P : Program} {w0 : World} {L L' : List Chunk} {l : List Value} {d : Option Tmp} {ty : TypeId} {ps : String} {af : Array Edge} {g : Option (Nat × Bool)}
theorem mkMap_q {t : TypeId} : Loud P w0 L ⟨d, .makeMap t none, ty, ps, af, g⟩ l (fun _ : Nat => True) (fun b => .map (some b)) (fun b => [mq b none []]) := fun F w _ hw => by
 refine OpT.of_run (w' := w.alloc (.map #[] 0)) ?_ ⟨w.heap.size, trivial, rfl, hw.add (D := [mq w.heap.size none []]) ((Below.refl _ _).alloc (Nat.le_refl _) _) (own_one ⟨#[], 0, heap_alloc_new w _, rfl, by simp, by simp, by simp⟩ (fun k hk => by cases hk; exact Nat.le_refl _))⟩
 have := run_makeMap (P := P) t w
 simp [execOp, Sem.run_bind, this]
variable {t kt b : Nat} {kvs : List (Value × Int)} {key : Value} {bo : Option (Nat × Nat)}
theorem mq_at {es : Array MapEntry} (h : es.toList.map (fun e => (e.key, e.val)) = kvs.map (fun p => (p.1, Value.int .i64 p.2))) {j : Nat} {e0 : MapEntry} (he : es.toList[j]? = some e0) : ∃ n, kvs[j]? = some (e0.key, n) ∧ e0.val = .int .i64 n := by
 have h1 := congrArg (fun l => l[j]?) h
 simp only [List.getElem?_map, he, Option.map_some] at h1
 cases hk : kvs[j]? with
 | none => rw [hk] at h1; cases h1
 | some p =>
  rw [hk] at h1
  simp at h1
  exact ⟨p.2, by rw [h1.1], h1.2⟩
theorem mq_none {es : Array MapEntry} (h : es.toList.map (fun e => (e.key, e.val)) = kvs.map (fun p => (p.1, Value.int .i64 p.2))) (hne : ∀ e ∈ es.toList, e.key ≠ key) : ∀ p ∈ kvs, p.1 ≠ key := fun p hp hk => by
 have h1 : (p.1, Value.int .i64 p.2) ∈ es.toList.map (fun e => (e.key, e.val)) := by rw [h]; exact List.mem_map_of_mem hp
 obtain ⟨e, he, hh⟩ := List.mem_map.1 h1
 injection hh with h2 _
 exact hne e he (h2.trans hk)
theorem mq_keys {es : Array MapEntry} (h : es.toList.map (fun e => (e.key, e.val)) = kvs.map (fun p => (p.1, Value.int .i64 p.2))) (hks : ∀ p ∈ kvs, ∃ q, keyOf P kt p.1 = some q) : ∀ x ∈ es.toList, ∃ l, keyOf P kt x.key = some l := fun x hx => by
 obtain ⟨j, hj⟩ := List.getElem?_of_mem hx
 obtain ⟨n, hn, _⟩ := mq_at h hj
 exact hks _ (List.mem_of_getElem? hn)
theorem lookup_mq {x y : Operand} (hM : MapT P t kt) (hx : ev l x = .map (some b)) (hy : ev l y = key) (hm : mq b bo kvs ∈ L) (hk : ∃ q, keyOf P kt key = some q) (hks : ∀ p ∈ kvs, ∃ q, keyOf P kt p.1 = some q) :
  Loud P w0 L ⟨d, .lookup t x y false, ty, ps, af, g⟩ l (fun n : Int => (n = 0 ∧ ∀ p ∈ kvs, p.1 ≠ key) ∨ (key, n) ∈ kvs) (fun n => .int .i64 n) (fun _ => []) := fun F w hF hw => by
 obtain ⟨es, clock, h1, h2, h3, h4, h6⟩ := (hw.2.1 _ (hF _ hm)).1
 obtain ⟨e, hu, hz⟩ := hM.u
 obtain ⟨q, hq⟩ := hk
 have hall := mq_keys (P := P) (kt := kt) h2 hks
 have hc := hM.law.check w es.isEmpty hq
 rcases hM.law.find w hq es.toList hall with ⟨hf, hne⟩ | ⟨j, e0, hf, he, hkey⟩
 ·refine OpT.of_run (v := .int .i64 0) (w' := w) ?_ ⟨0, .inl ⟨rfl, mq_none h2 hne⟩, rfl, hw⟩
  simp [execOp, hx, hy, Instr.lookup, run_underlying hu, MapKept.run_getObj_map h1, hc, hf, hz, Result.andThen]
 ·obtain ⟨n, hn0, hn⟩ := mq_at h2 he
  refine OpT.of_run (v := .int .i64 n) (w' := w) ?_ ⟨n, .inr (by rw [← hkey]; exact List.mem_of_getElem? hn0), rfl, hw⟩
  simp [execOp, hx, hy, Instr.lookup, run_underlying hu, MapKept.run_getObj_map h1, hc, hf, hn, Result.andThen]
theorem mapEntry_mq {x y : Operand} {M' : Int × Nat × Nat → List Chunk} (hM : MapT P t kt) (hx : ev l x = .map (some b)) (hy : ev l y = key) (hk : ∃ q, keyOf P kt key = some q) (hks : ∀ p ∈ kvs, ∃ q, keyOf P kt p.1 = some q)
  (hr : ∀ r : Int × Nat × Nat, Rep (mq b none kvs) (mq b (some (r.2.1, r.2.2)) (entQ kvs key r.2.2)) L (M' r)) :
  Upd P w0 L ⟨d, .mapEntry t x y, ty, ps, af, g⟩ l (fun r : Int × Nat × Nat => (r.2.2 = kvs.length ∧ r.1 = 0 ∧ ∀ p ∈ kvs, p.1 ≠ key) ∨ kvs[r.2.2]? = some (key, r.1)) (fun r => .tuple #[.int .i64 r.1, .int .i64 r.2.1]) M' := fun w hw => by
 obtain ⟨es, clock, h1, h2, h3, h4, h6⟩ := (hw.2.1 _ (hr (0, 0, 0)).mem).1
 obtain ⟨e, hu, hz⟩ := hM.u
 obtain ⟨q, hq⟩ := hk
 have hall := mq_keys (P := P) (kt := kt) h2 hks
 have hlen : es.toList.length = kvs.length := by simpa using congrArg List.length h2
 have hc := hM.law.check w false hq
 have hst := hM.law.stays w hq
 rcases hM.law.find w hq es.toList hall with ⟨hf, hne⟩ | ⟨j, e0, hf, he, hkey⟩
 ·refine OpT.of_run (v := .tuple #[.int .i64 0, .int .i64 clock]) (w' := { w with heap := w.heap.setIfInBounds b (.map (es.push ⟨key, .int .i64 0, clock⟩) (clock + 1)) }) ?_ ⟨(0, clock, kvs.length), .inl ⟨rfl, rfl, mq_none h2 hne⟩, rfl, ?_⟩
  ·simp [execOp, hx, hy, Instr.mapEntry, run_underlying hu, MapKept.run_getObj_map h1, hc, hf, hz, MapKept.run_setObj_map _ h1, goInt, Result.andThen]
  ·refine hw.upd (hr (0, clock, kvs.length)) (grownBy_setMap w b _) (fun k hk => by cases hk; rfl) ⟨_, _, map_set h1, ?_, ?_, ?_, ?_⟩ (fun k hk => .inl hk)
   ·rw [entQ, if_neg (Nat.lt_irrefl _)]
    simp [h2]
   ·simp only [Array.toList_push, List.map_append, List.map_cons, List.map_nil]
    refine List.nodup_append.2 ⟨h3, by simp, fun a ha c hc he => ?_⟩
    obtain ⟨e1, he1, rfl⟩ := List.mem_map.1 ha
    simp at hc
    have := h4 e1 he1
    omega
   ·intro e1 he1
    simp only [Array.toList_push, List.mem_append, List.mem_singleton] at he1
    rcases he1 with he1 | rfl
    ·have := h4 e1 he1; omega
    ·simp
   ·intro x hx
    cases hx
    exact ⟨⟨key, .int .i64 0, clock⟩, by simp [← hlen], rfl⟩
 ·obtain ⟨n, hn0, hn⟩ := mq_at h2 he
  have he' : es[j]? = some e0 := by simpa using he
  have hj : j < kvs.length := (List.getElem?_eq_some_iff.1 hn0).1
  have hm2 : es.modify j (fun e => { e with key := key }) = es := modify_same he hkey
  refine OpT.of_run (v := .tuple #[.int .i64 n, .int .i64 e0.born]) (w' := { w with heap := w.heap.setIfInBounds b (.map es clock) }) ?_ ⟨(n, e0.born, j), .inr (by rw [hn0, hkey]), rfl, ?_⟩
  ·simp [execOp, hx, hy, Instr.mapEntry, run_underlying hu, MapKept.run_getObj_map h1, hc, hf, hn, he', hkey, hst, hm2, MapKept.run_setObj_map _ h1, goInt, Result.andThen]
  ·refine hw.upd (hr (n, e0.born, j)) (grownBy_setMap w b _) (fun k hk => by cases hk; rfl) ⟨_, _, map_set h1, ?_, h3, h4, ?_⟩ (fun k hk => .inl hk)
   ·rw [entQ, if_pos hj]; exact h2
   ·intro x hx
    cases hx
    exact ⟨e0, he, rfl⟩
theorem entryStore_mq {x y z : Operand} {n j : Nat} {m : Int} (hx : ev l x = .map (some b)) (hy : ev l y = .int .i64 n) (hz : ev l z = .int .i64 m) (hr : Rep (mq b (some (n, j)) kvs) (mq b none (kvs.modify j fun p => (p.1, m))) L L') :
  Upd P w0 L ⟨d, .entryStore t x y z, ty, ps, af, g⟩ l (fun _ : Unit => True) (fun _ => undef) (fun _ => L') := fun w hw => by
 obtain ⟨es, clock, h1, h2, h3, h4, h6⟩ := (hw.2.1 _ hr.mem).1
 obtain ⟨e0, he0, hb0⟩ := h6 _ rfl
 simp only at he0 hb0
 cases hf : es.findIdx? (fun e => (e.born : Int) == (n : Int)) with
 | none =>
  have := Array.findIdx?_eq_none_iff.1 hf e0 (by simpa using List.mem_of_getElem? he0)
  simp [hb0] at this
 | some i =>
  have hij : i = j := by
   obtain ⟨hi, hp, _⟩ := Array.findIdx?_eq_some_iff_getElem.1 hf
   have hp' : es[i].born = n := by
    have h9 : ((es[i].born : Nat) : Int) = (n : Int) := by simpa using hp
    omega
   have hjl : j < es.toList.length := (List.getElem?_eq_some_iff.1 he0).1
   have hb1 : (es.toList.map (·.born))[i]? = some n := by simp [hi, hp']
   have hb2 : (es.toList.map (·.born))[j]? = some n := by rw [List.getElem?_map, he0]; simp [hb0]
   exact (List.getElem?_inj (by simpa using hi) h3).1 (hb1.trans hb2.symm)
  subst hij
  have hm : ∀ k, ((es.modify i fun e => { e with val := .int .i64 m }).toList)[k]? = (es.toList[k]?).map fun e => if i = k then { e with val := .int .i64 m } else e := fun k => by
   simp only [Array.toList_modify, List.getElem?_modify]
   split <;> rename_i h <;> simp [h]
  have hborn : (es.modify i fun e => { e with val := .int .i64 m }).toList.map (·.born) = es.toList.map (·.born) := by
   apply List.ext_getElem?
   intro k
   rw [List.getElem?_map, hm, List.getElem?_map, Option.map_map]
   congr 1
   funext e
   simp only [Function.comp]
   split <;> rfl
  refine OpT.of_skip (w' := { w with heap := w.heap.setIfInBounds b (.map (es.modify i fun e => { e with val := .int .i64 m }) clock) }) ?_ ⟨(), trivial, rfl, ?_⟩
  ·simp [execOp, hx, hy, hz, Instr.entryStore, MapKept.run_getObj_map h1, asInt, asIntOf, hf, MapKept.run_setObj_map _ h1, Result.andThen]
  ·refine hw.upd hr (grownBy_setMap w b _) (fun k hk => by cases hk; rfl) ⟨_, _, map_set h1, ?_, by rw [hborn]; exact h3, ?_, by simp⟩ (fun k hk => .inl hk)
   ·apply List.ext_getElem?
    intro k
    have h7 := congrArg (fun l => l[k]?) h2
    simp only [List.getElem?_map] at h7
    rw [List.getElem?_map, hm, List.getElem?_map, List.getElem?_modify, Option.map_map]
    split
    ·rename_i hk; subst hk
     cases h8 : es.toList[i]? with
     | none => rw [h8] at h7; cases h9 : kvs[i]? with
      | none => simp [h9]
      | some p => rw [h9] at h7; cases h7
     | some e1 => rw [h8] at h7; cases h9 : kvs[i]? with
      | none => rw [h9] at h7; cases h7
      | some p => rw [h9] at h7; simp at h7; simp [h7.1]
    ·rename_i hk
     cases h8 : es.toList[k]? with
     | none => rw [h8] at h7; cases h9 : kvs[k]? with
      | none => simp [h9]
      | some p => rw [h9] at h7; cases h7
     | some e1 => rw [h8] at h7; cases h9 : kvs[k]? with
      | none => rw [h9] at h7; cases h7
      | some p => rw [h9] at h7; simp at h7; simp [h7.1, h7.2, hk]
   ·intro e1 he1
    have h8 : e1.born ∈ es.toList.map (·.born) := by rw [← hborn]; exact List.mem_map_of_mem he1
    obtain ⟨e2, he2, hh⟩ := List.mem_map.1 h8
    rw [← hh]; exact h4 e2 he2
end
theorem Rd.take {E : Type} {w : World} {A : Option Addr} {size : Nat} {e : E → List Value} {xs : List E} (h : Rd w A size e xs) (n : Nat) : Rd w A size e (xs.take n) := fun k x hx => h k x (by
 rw [List.getElem?_take] at hx
 split at hx
 ·exact hx
 ·cases hx)
theorem dC {L : List Chunk} (n : Nat) : ∀ c, c ∈ L.take n → c ∈ L := fun _ h => List.mem_of_mem_take h
def key2 (P : Program) (t : TypeId) : Bool :=
 P.keyType t && P.cellsOf t == 2 && match P.underlying t with
 | some (.struct fs) => fs.all (·.name != "_") && match fs.toList with
  | [f, g] => P.cellsOf f.type == 1 && P.cellsOf g.type == 1 && (match P.underlying f.type with | some (.int .i64) => true | _ => false) && (match P.underlying g.type with | some (.int .i64) => true | _ => false) && f.offset == 0 && g.offset == 1
  | _ => false
 | _ => false
theorem int_i64 {P : Program} {t : TypeId} (h : (match P.underlying t with | some (.int .i64) => true | _ => false) = true) : P.underlying t = some (.int .i64) := by
 split at h
 ·assumption
 ·cases h
theorem keyLits_i64 {P : Program} {t : TypeId} {m : Nat} {n : Int} (hu : P.underlying t = some (.int .i64)) (h : (Lit.int .i64 n).wf = true) : P.keyLits (m + 1) t [.int .i64 n] = some [.int .i64 n] := by
 unfold Program.keyLits
 rw [hu]
 simp [h]
theorem keyOf_2 {P : Program} {t : TypeId} {x y : Int} (hk : key2 P t = true) (hs : 0 < P.types.size) (hf : (Value.agg #[.int .i64 x, .int .i64 y]).formed P t = true) (hx : (Lit.int .i64 x).wf = true) (hy : (Lit.int .i64 y).wf = true) : ∃ q, keyOf P t (.agg #[.int .i64 x, .int .i64 y]) = some q := by
 unfold key2 at hk
 simp only [Bool.and_eq_true, beq_iff_eq] at hk
 obtain ⟨⟨h1, h2⟩, h3⟩ := hk
 split at h3
 ·rename_i fs hu
  simp only [Bool.and_eq_true] at h3
  obtain ⟨h4, h5⟩ := h3
  split at h5
  ·rename_i f g hl
   simp only [Bool.and_eq_true, beq_iff_eq] at h5
   obtain ⟨⟨⟨⟨⟨c1, c2⟩, u1⟩, u2⟩, o1⟩, o2⟩ := h5
   have u1' := int_i64 u1
   have u2' := int_i64 u2
   obtain ⟨s, hs'⟩ : ∃ s, P.types.size = s + 1 := ⟨P.types.size - 1, by omega⟩
   refine ⟨.string (keyBytes [.int .i64 x, .int .i64 y]), ?_⟩
   unfold keyOf
   rw [hu]
   simp only [h1, hf, Bool.and_self, if_true]
   have e : (Value.agg #[.int .i64 x, .int .i64 y]).cells.toList = [.int .i64 x, .int .i64 y] := rfl
   rw [e]
   unfold Program.keyLits
   rw [hu]
   have e1 : (([.int .i64 x, .int .i64 y] : List Value).drop 0).take 1 = [.int .i64 x] := rfl
   have e2 : (([.int .i64 x, .int .i64 y] : List Value).drop 1).take 1 = [.int .i64 y] := rfl
   simp only [hl, h2, h4, hs', List.length_cons, List.length_nil, and_self, if_true, List.mapM_cons, List.mapM_nil, o1, o2, c1, c2, e1, e2, keyLits_i64 u1' hx, keyLits_i64 u2' hy]
   rfl
  ·cases h5
 ·cases h3
end Go.K

namespace Go.K
open Go.RowKit
section
variable {P : Program} {w0 : World} {L L' : List Chunk} {l : List Value} {d : Option Tmp} {ty : TypeId} {ps : String} {af : Array Edge} {g : Option (Nat × Bool)} {x y : Operand}
theorem blk_own {w : World} {F : List Chunk} {b : Nat} {t : TypeId} {cs : List Value} (hw : St w0 F w) (hm : blk b t cs ∈ F) : w0.heap.size ≤ b := (hw.2.1 _ hm).2 b rfl
theorem blk_lt {w : World} {F : List Chunk} {b : Nat} {t : TypeId} {cs : List Value} (hw : St w0 F w) (hm : blk b t cs ∈ F) : b < w.heap.size := hw.lt hm rfl
theorem PtrL.into {w : World} {F : List Chunk} {b : Nat} {us : List Value} (h : PtrL w0 [] ⟨b, 0, none⟩ us) (hb : b < w0.heap.size) (hw : St w0 F w) : PtrL w [] ⟨b, 0, none⟩ us := PtrL.old (Nat.lt_of_lt_of_le hb hw.1.size) (h F w (by simp) hw)
theorem PtrL.at_F {w : World} {F : List Chunk} {b : Nat} {us : List Value} {ch : Chunk} (h : PtrL w0 [ch] ⟨b, 0, none⟩ us) (hm : ch ∈ F) (hw : St w0 F w) (h0 : us ≠ []) : PtrL w [] ⟨b, 0, none⟩ us := by
 have hc := h F w (by intro c hc; simp at hc; subst hc; exact hm) hw
 refine PtrL.old ?_ hc
 cases us with
 | nil => exact absurd rfl h0
 | cons u us =>
  have := World.block_lt_of_cell? w _ (hc 0 u rfl)
  simpa [addr_block] using this
theorem permH {G : World → Prop} (hp : L.Perm L') (k : Hold w0 L' G) : Hold w0 L G := fun w hw => k w (hw.perm hp)
theorem lt_into {w : World} {F : List Chunk} {b : Nat} (hb : b < w0.heap.size) (hw : St w0 F w) : b < w.heap.size := Nat.lt_of_lt_of_le hb hw.1.size
theorem nilCheck {a : Addr} (hx : ev l x = .pointer (some a)) : Pure P ⟨d, .nilCheck x, ty, ps, af, g⟩ l (.pointer (some a)) := fun w => by
 simp [execOp, hx]
theorem slice_arr {t m0 e b o : Nat} (ha : ar P t = some (m0, e, 1)) (hx : ev l x = .pointer (some ⟨b, o, none⟩)) : Pure P ⟨d, .slice t x none none none, ty, ps, af, g⟩ l (.slice (some ⟨b, o, none⟩) m0 m0) := fun w => by
 obtain ⟨i, hu, hi, hn⟩ := ar_spec ha
 have e1 : P.elem t = e := by simp [Program.elem, hu]
 have e2 : P.arrayLen t = m0 := by simp [Program.arrayLen, hu]
 have := run_sliceAt_array_all (P := P) w t ⟨b, o, none⟩ (by rw [e1, e2]; exact hu)
 simp only [execOp, Option.map_none, hx, this, sizeOf, typeInfo, e1, e2, hi, hn, Sem.run_bind, run_program, Sem.run_pure, Result.andThen_ok, slicedAt, Nat.sub_zero, addr_add0, Nat.zero_mul, ite_self]
theorem PtrL.lit {b k : Nat} {us : List Value} (hp : PtrL w0 L ⟨b, 0, none⟩ us) : PtrL w0 L ⟨b, k, none⟩ (us.drop k) := by
 have := hp.fld (k := k)
 rwa [add_lit, Nat.zero_add] at this
theorem mB {t b i : Nat} {us : List Value} {v : Value} (ho : one P t = true) (hx : ev l x = .pointer (some ⟨b, i, none⟩)) (hp : PtrL w0 L ⟨b, 0, none⟩ us) (hv : us[i]? = some v) : Sil P w0 L ⟨d, .load t x, ty, ps, af, g⟩ l v := by
 have h1 : PtrL w0 L ⟨b, i, none⟩ (us.drop i) := by
  have := hp.fld (k := i)
  rwa [add_lit, Nat.zero_add] at this
 obtain ⟨hi, hv'⟩ := List.getElem?_eq_some_iff.1 hv
 rw [List.drop_eq_getElem_cons hi, hv'] at h1
 exact load1 ho hx h1
theorem copyS {E : Type} {M : List Chunk} {t t' ty' e b o n n' c : Nat} {te : TypeId} {A : Option Addr} {enc : E → List Value} {zs : List E} {cs : List Value} (ht : sl P t = some (e, 1)) (hx : ev l x = .slice (some ⟨b, o, none⟩) n n') (hy : ev l y = .slice A zs.length c)
  (hp : Sl w0 L A 1 enc zs) (hl : ∀ x, (enc x).length = 1) (h1 : (zs.flatMap enc).all Value.oneCell' = true) (h0 : 0 < zs.length) (hn : zs.length ≤ n) (hfit : o + zs.length ≤ cs.length)
  (hr : Rep (blk b te cs) (blk b te (cs.take o ++ zs.flatMap enc ++ cs.drop (o + zs.length))) L L') :
  Upd P w0 L ⟨d, .call { callee := .builtin .copy, args := #[x, y], argTypes := #[t, t'] }, ty', ps, af, g⟩ l (fun _ : Unit => True) (fun _ => .int .i64 zs.length) (fun _ => L') := fun w hw => by
 have hh : w.heap[b]? = some (.cells cs.toArray te (0, 0)) := (hw.2.1 _ hr.mem).1
 obtain ⟨i, hs, hi, hsz⟩ := sl_spec ht
 obtain ⟨a, rfl, _⟩ := hp 0 zs[0] (List.getElem?_eq_getElem h0)
 have hlen : (zs.flatMap enc).length = zs.length := by rw [flat_len hl, Nat.mul_one]
 have hrun := run_copy_row (P := P) w t t' ty' e b o n n' a zs.length c cs.toArray te (zs.flatMap enc) hs (by rw [hi]; simp [hsz]) hh (by rw [hlen]; exact (Nat.min_eq_left hn).symm)
  (hp.ptr hl (by decide) L w (fun _ h => h) hw) (by rw [hlen]; simpa using hfit) (fun v hv => List.all_eq_true.1 h1 v hv)
 rw [hlen] at hrun
 refine OpT.of_run (w' := w.setRow b (cs.take o ++ zs.flatMap enc ++ cs.drop (o + zs.length)).toArray) ?_ ⟨(), trivial, rfl, hw.upd hr (grownBy_setRow w b _) (fun k hk => by cases hk; rfl) (setRow_heap w b cs.toArray _ te (0, 0) hh) (fun k hk => .inl hk)⟩
 simp only [execOp, resolve, invoke, builtin, Sem.run_bind, Sem.run_pure, Result.andThen_ok, List.map_toArray, List.map_cons, List.map_nil, hx, hy, hrun]
 rfl
theorem quo_t {xt yt : TypeId} {m n : Int} (hx : ev l x = .int .i64 m) (hy : ev l y = .int .i64 n) (h0 : n ≠ 0) (h1 : -9223372036854775807 ≤ m ∧ m ≤ 9223372036854775807) :
  Pure P ⟨d, .binOp .quo xt x y yt, ty, ps, af, g⟩ l (.int .i64 (m.tdiv n)) := fun w => by
 have hb : (m.tdiv n).natAbs ≤ m.natAbs := by rw [Int.natAbs_tdiv]; exact Nat.div_le_self _ _
 have hw : IntKind.i64.wrap (m.tdiv n) = m.tdiv n := IntWalk.i64_in _ ⟨by omega, by omega⟩
 simp [execOp, hx, hy, eqGuard_quo, binOp_quo, Op.intDiv, h0, hw]
theorem rem_t {xt yt : TypeId} {m n : Int} (hx : ev l x = .int .i64 m) (hy : ev l y = .int .i64 n) (h0 : n ≠ 0) :
  Pure P ⟨d, .binOp .rem xt x y yt, ty, ps, af, g⟩ l (.int .i64 (m.tmod n)) := fun w => by
 simp [execOp, hx, hy, eqGuard_rem, binOp_rem, Op.intDiv, h0]
theorem neg_wrap {xt : TypeId} {k : IntKind} {m : Int} (hx : ev l x = .int k m) : Pure P ⟨d, .unOp .neg xt x, ty, ps, af, g⟩ l (.int k (k.wrap (0 - m))) := fun w => by
 simp [execOp, hx, Op.unary, Op.intArith]
theorem mul_wrap {xt yt : TypeId} {k : IntKind} {m n : Int} (hx : ev l x = .int k m) (hy : ev l y = .int k n) : Pure P ⟨d, .binOp .mul xt x y yt, ty, ps, af, g⟩ l (.int k (k.wrap (m * n))) := fun w => by
 simp [execOp, hx, hy, binOp, eqGuard, Op.intArith]
theorem res_ctt {fn : Func} {p t u : Tmp} {ty : TypeId} {b : Nat} {v : Value} (h : fn.results = #[.cell p ty, .tmp t, .tmp u]) (hp : nth l p = .pointer (some ⟨b, 0, none⟩)) {w : World} (hv : (loadVar ty ⟨b, 0, none⟩).run P w = .ok v w) :
  (results fn l.toArray).run P w = .ok (.tuple #[v, nth l t, nth l u]) w := by
 have hp' : l.toArray[p]?.getD undef = .pointer (some ⟨b, 0, none⟩) := by rw [← hp, mC]; simp
 have ht : l.toArray[t]?.getD undef = nth l t := by rw [mC]; simp
 have hu : l.toArray[u]?.getD undef = nth l u := by rw [mC]; simp
 simp at hp' ht hu
 simp [results, h, hp', ht, hu, asAddr, hv]
theorem res_t4 {fn : Func} {t u v x : Tmp} (h : fn.results = #[.tmp t, .tmp u, .tmp v, .tmp x]) (w : World) : (results fn l.toArray).run P w = .ok (.tuple #[nth l t, nth l u, nth l v, nth l x]) w := by
 have ht : l.toArray[t]?.getD undef = nth l t := by rw [mC]; simp
 have hu : l.toArray[u]?.getD undef = nth l u := by rw [mC]; simp
 have hv : l.toArray[v]?.getD undef = nth l v := by rw [mC]; simp
 have hx : l.toArray[x]?.getD undef = nth l x := by rw [mC]; simp
 simp at ht hu hv hx
 simp [results, h, ht, hu, hv, hx]
theorem res_c5 {fn : Func} {p1 p2 p3 p4 p5 : Tmp} {t1 t2 t3 t4 t5 : TypeId} {b1 b2 b3 b4 b5 : Nat} {v1 v2 v3 v4 v5 : Value} (h : fn.results = #[.cell p1 t1, .cell p2 t2, .cell p3 t3, .cell p4 t4, .cell p5 t5]) (h1 : nth l p1 = .pointer (some ⟨b1, 0, none⟩)) (h2 : nth l p2 = .pointer (some ⟨b2, 0, none⟩)) (h3 : nth l p3 = .pointer (some ⟨b3, 0, none⟩)) (h4 : nth l p4 = .pointer (some ⟨b4, 0, none⟩)) (h5 : nth l p5 = .pointer (some ⟨b5, 0, none⟩)) {w : World}
  (e1 : (loadVar t1 ⟨b1, 0, none⟩).run P w = .ok v1 w) (e2 : (loadVar t2 ⟨b2, 0, none⟩).run P w = .ok v2 w) (e3 : (loadVar t3 ⟨b3, 0, none⟩).run P w = .ok v3 w) (e4 : (loadVar t4 ⟨b4, 0, none⟩).run P w = .ok v4 w) (e5 : (loadVar t5 ⟨b5, 0, none⟩).run P w = .ok v5 w) :
  (results fn l.toArray).run P w = .ok (.tuple #[v1, v2, v3, v4, v5]) w := by
 have q1 : l.toArray[p1]?.getD undef = .pointer (some ⟨b1, 0, none⟩) := by rw [← h1, mC]; simp
 have q2 : l.toArray[p2]?.getD undef = .pointer (some ⟨b2, 0, none⟩) := by rw [← h2, mC]; simp
 have q3 : l.toArray[p3]?.getD undef = .pointer (some ⟨b3, 0, none⟩) := by rw [← h3, mC]; simp
 have q4 : l.toArray[p4]?.getD undef = .pointer (some ⟨b4, 0, none⟩) := by rw [← h4, mC]; simp
 have q5 : l.toArray[p5]?.getD undef = .pointer (some ⟨b5, 0, none⟩) := by rw [← h5, mC]; simp
 simp at q1 q2 q3 q4 q5
 simp [results, h, q1, q2, q3, q4, q5, asAddr, e1, e2, e3, e4, e5]
theorem or_int {xt yt : TypeId} {k : IntKind} {m n : Int} (hx : ev l x = .int k m) (hy : ev l y = .int k n) : Pure P ⟨d, .binOp .or xt x y yt, ty, ps, af, g⟩ l (.int k (k.wrap (BitVec.ofInt k.bits m ||| BitVec.ofInt k.bits n).toNat)) := fun w => by
 simp [execOp, hx, hy, eqGuard, binOp, Op.intBits]
end
end Go.K
end
