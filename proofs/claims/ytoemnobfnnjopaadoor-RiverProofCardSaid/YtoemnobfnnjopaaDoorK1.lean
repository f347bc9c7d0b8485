/-
  Plain lemmas and plain functions, several texts joined.
  Conditions stand in each theorem.
-/
import Derived.Below
import Derived.Laws.AppendOwn
import Derived.Laws.Rows
import Derived.Laws.Slices
import Derived.Tactics
import Derived.OrdersHeld
import Derived.KernelRfl
import Derived.WalkKit
import Derived.Deep.AppendLies
import Derived.IntWalk
import Derived.Scope
set_option linter.unusedSimpArgs false
set_option linter.unusedVariables false
/-
  A small program logic over the model: what a call owns (chunks of memory, disjoint from each other and from all that was there before), told as a list; worlds stay letters.
  No conditions: plain lemmas over any program.
-/
namespace Go.K
open Go.RowKit

/-- A part of memory: which blocks it lies in, and what is said of them. -/
structure Chunk where
  foot : Nat → Prop
  holds : World → Prop
  loc : ∀ w w', holds w → (∀ k, foot k → w'.heap[k]? = w.heap[k]?) → holds w'
  live : ∀ w k, holds w → foot k → k < w.heap.size

theorem lt_of_some {w : World} {g : Nat} {o : Obj} (h : w.heap[g]? = some o) : g < w.heap.size :=
  (Array.getElem?_eq_some_iff.1 h).1

/-- Block g is just these cells of element type t, none of them frozen. -/
def blk (g : Nat) (t : TypeId) (cs : List Value) : Chunk where
  foot := fun k => k = g
  holds := fun w => w.heap[g]? = some (.cells cs.toArray t (0, 0))
  loc := fun _ _ h hk => (hk g rfl).trans h
  live := fun _ k h hk => by subst hk; exact lt_of_some h

/-- The slice value v owns the row xs (n elements of 'size' cells). -/
def row (v : Value) (e : TypeId) (size n : Nat) (xs : List Value) : Chunk where
  foot := fun k => v.ownBlock = some k
  holds := fun w => w.ownsRow 0 e size v n xs
  loc := fun w w' h hk => by
    refine ⟨h.1, ?_⟩
    rcases h.2 with hn | ⟨g, cap, cur, rfl, hb, hgg, rest⟩
    · exact .inl hn
    · exact .inr ⟨g, cap, cur, rfl, hb, (hk g rfl).trans hgg, rest⟩
  live := fun _ k h hk => (h.lt k hk).2

def Own (B : Nat) (L : List Chunk) (w : World) : Prop :=
  (∀ c ∈ L, c.holds w ∧ ∀ k, c.foot k → B ≤ k) ∧ L.Pairwise fun c d => ∀ k, c.foot k → ¬ d.foot k

/-- Since the call began in w0 nothing that was there has turned, and the call owns L. -/
def St (w0 : World) (L : List Chunk) (w : World) : Prop := Below w0.heap.size w0 w ∧ Own w0.heap.size L w

def Hold (w0 : World) (L : List Chunk) (G : World → Prop) : Prop := ∀ w, St w0 L w → G w

theorem St.start (w0 : World) : St w0 [] w0 := ⟨Below.refl _ _, by simp [Own]⟩

theorem St.sub {w0 w : World} {L L' : List Chunk} (h : St w0 L w) (hs : List.Sublist L' L) : St w0 L' w :=
  ⟨h.1, fun c hc => h.2.1 c (hs.subset hc), h.2.2.sublist hs⟩

theorem St.perm {w0 w : World} {L L' : List Chunk} (h : St w0 L w) (hp : L.Perm L') : St w0 L' w :=
  ⟨h.1, fun c hc => h.2.1 c (hp.mem_iff.2 hc), (hp.pairwise_iff (fun {_ _} h k hd hc => h k hc hd)).1 h.2.2⟩

theorem St.keep {w0 w w' : World} {L : List Chunk} (h : St w0 L w) (hb : Below w0.heap.size w w') (hk : ∀ c ∈ L, ∀ k, c.foot k → w'.heap[k]? = w.heap[k]?) : St w0 L w' :=
  ⟨h.1.trans hb, fun c hc => ⟨c.loc _ _ (h.2.1 c hc).1 (hk c hc), (h.2.1 c hc).2⟩, h.2.2⟩

theorem St.drew {w0 w : World} {L : List Chunk} (h : St w0 L w) : St w0 L w.drew :=
  h.keep (Below.refl _ _).drew (fun _ _ _ _ => rfl)

theorem St.lt {w0 w : World} {L : List Chunk} (h : St w0 L w) {c : Chunk} (hc : c ∈ L) {k : Nat} (hk : c.foot k) : k < w.heap.size :=
  c.live w k (h.2.1 c hc).1 hk

/-- Behind a call that leaves all that was there as it was, and makes D. -/
theorem St.add {w0 w w' : World} {L D : List Chunk} (h : St w0 L w) (hb : Below w.heap.size w w') (hD : Own w.heap.size D w') : St w0 (D ++ L) w' := by
  have hs := h.1.size
  refine ⟨h.1.trans (hb.mono hs), fun c hc => ?_, ?_⟩
  · rcases List.mem_append.1 hc with hc | hc
    · exact ⟨(hD.1 c hc).1, fun k hk => Nat.le_trans hs ((hD.1 c hc).2 k hk)⟩
    · exact ⟨c.loc _ _ (h.2.1 c hc).1 (fun k hk => hb.block k (h.lt hc hk)), (h.2.1 c hc).2⟩
  · refine List.pairwise_append.2 ⟨hD.2, h.2.2, fun c hc d hd k hk hk' => ?_⟩
    have h1 := (hD.1 c hc).2 k hk
    have h2 := h.lt hd hk'
    omega

theorem own_one {B : Nat} {c : Chunk} {w : World} (h : c.holds w) (hB : ∀ k, c.foot k → B ≤ k) : Own B [c] w :=
  ⟨fun d hd => by simp at hd; subst hd; exact ⟨h, hB⟩, by simp⟩

theorem own_nil {B : Nat} {w : World} : Own B [] w := ⟨by simp, by simp⟩

theorem St.new {w0 w : World} {L : List Chunk} (h : St w0 L w) (t : TypeId) (cs : List Value) : St w0 (blk w.heap.size t cs :: L) (w.alloc (.cells cs.toArray t)) :=
  h.add (D := [blk w.heap.size t cs]) ((Below.refl _ _).alloc (Nat.le_refl _) _) (own_one (heap_alloc_new w _) (fun k hk => by cases hk; exact Nat.le_refl _))

/-- L' is L with c' in the place of c. -/
def Rep (c c' : Chunk) (L L' : List Chunk) : Prop := ∃ A B, L = A ++ c :: B ∧ L' = A ++ c' :: B
theorem Rep.here {c c' : Chunk} {L : List Chunk} : Rep c c' (c :: L) (c' :: L) := ⟨[], L, rfl, rfl⟩
theorem Rep.there {c c' d : Chunk} {L L' : List Chunk} (h : Rep c c' L L') : Rep c c' (d :: L) (d :: L') := by
  obtain ⟨A, B, rfl, rfl⟩ := h; exact ⟨d :: A, B, rfl, rfl⟩
theorem Rep.mem {c c' : Chunk} {L L' : List Chunk} (h : Rep c c' L L') : c ∈ L := by
  obtain ⟨A, B, rfl, rfl⟩ := h; simp

theorem tl {c a : Chunk} {L : List Chunk} (h : c ∈ L) : c ∈ a :: L := List.Mem.tail _ h
theorem m0 {c : Chunk} {L : List Chunk} : c ∈ c :: L := List.Mem.head _
theorem rp0 {c c' : Chunk} {L : List Chunk} : Rep c c' (c :: L) (c' :: L) := Rep.here
theorem m1 {a0 c : Chunk} {L : List Chunk} : c ∈ a0 :: c :: L := tl m0
theorem rp1 {a0 c c' : Chunk} {L : List Chunk} : Rep c c' (a0 :: c :: L) (a0 :: c' :: L) := Rep.there rp0
theorem m2 {a0 a1 c : Chunk} {L : List Chunk} : c ∈ a0 :: a1 :: c :: L := tl m1
theorem rp2 {a0 a1 c c' : Chunk} {L : List Chunk} : Rep c c' (a0 :: a1 :: c :: L) (a0 :: a1 :: c' :: L) := Rep.there rp1
theorem m3 {a0 a1 a2 c : Chunk} {L : List Chunk} : c ∈ a0 :: a1 :: a2 :: c :: L := tl m2
theorem rp3 {a0 a1 a2 c c' : Chunk} {L : List Chunk} : Rep c c' (a0 :: a1 :: a2 :: c :: L) (a0 :: a1 :: a2 :: c' :: L) := Rep.there rp2
theorem m4 {a0 a1 a2 a3 c : Chunk} {L : List Chunk} : c ∈ a0 :: a1 :: a2 :: a3 :: c :: L := tl m3
theorem rp4 {a0 a1 a2 a3 c c' : Chunk} {L : List Chunk} : Rep c c' (a0 :: a1 :: a2 :: a3 :: c :: L) (a0 :: a1 :: a2 :: a3 :: c' :: L) := Rep.there rp3
theorem m5 {a0 a1 a2 a3 a4 c : Chunk} {L : List Chunk} : c ∈ a0 :: a1 :: a2 :: a3 :: a4 :: c :: L := tl m4
theorem rp5 {a0 a1 a2 a3 a4 c c' : Chunk} {L : List Chunk} : Rep c c' (a0 :: a1 :: a2 :: a3 :: a4 :: c :: L) (a0 :: a1 :: a2 :: a3 :: a4 :: c' :: L) := Rep.there rp4
theorem m6 {a0 a1 a2 a3 a4 a5 c : Chunk} {L : List Chunk} : c ∈ a0 :: a1 :: a2 :: a3 :: a4 :: a5 :: c :: L := tl m5
theorem rp6 {a0 a1 a2 a3 a4 a5 c c' : Chunk} {L : List Chunk} : Rep c c' (a0 :: a1 :: a2 :: a3 :: a4 :: a5 :: c :: L) (a0 :: a1 :: a2 :: a3 :: a4 :: a5 :: c' :: L) := Rep.there rp5
theorem m7 {a0 a1 a2 a3 a4 a5 a6 c : Chunk} {L : List Chunk} : c ∈ a0 :: a1 :: a2 :: a3 :: a4 :: a5 :: a6 :: c :: L := tl m6
theorem rp7 {a0 a1 a2 a3 a4 a5 a6 c c' : Chunk} {L : List Chunk} : Rep c c' (a0 :: a1 :: a2 :: a3 :: a4 :: a5 :: a6 :: c :: L) (a0 :: a1 :: a2 :: a3 :: a4 :: a5 :: a6 :: c' :: L) := Rep.there rp6
theorem m8 {a0 a1 a2 a3 a4 a5 a6 a7 c : Chunk} {L : List Chunk} : c ∈ a0 :: a1 :: a2 :: a3 :: a4 :: a5 :: a6 :: a7 :: c :: L := tl m7
theorem rp8 {a0 a1 a2 a3 a4 a5 a6 a7 c c' : Chunk} {L : List Chunk} : Rep c c' (a0 :: a1 :: a2 :: a3 :: a4 :: a5 :: a6 :: a7 :: c :: L) (a0 :: a1 :: a2 :: a3 :: a4 :: a5 :: a6 :: a7 :: c' :: L) := Rep.there rp7
theorem m9 {a0 a1 a2 a3 a4 a5 a6 a7 a8 c : Chunk} {L : List Chunk} : c ∈ a0 :: a1 :: a2 :: a3 :: a4 :: a5 :: a6 :: a7 :: a8 :: c :: L := tl m8
theorem rp9 {a0 a1 a2 a3 a4 a5 a6 a7 a8 c c' : Chunk} {L : List Chunk} : Rep c c' (a0 :: a1 :: a2 :: a3 :: a4 :: a5 :: a6 :: a7 :: a8 :: c :: L) (a0 :: a1 :: a2 :: a3 :: a4 :: a5 :: a6 :: a7 :: a8 :: c' :: L) := Rep.there rp8
theorem m10 {a0 a1 a2 a3 a4 a5 a6 a7 a8 a9 c : Chunk} {L : List Chunk} : c ∈ a0 :: a1 :: a2 :: a3 :: a4 :: a5 :: a6 :: a7 :: a8 :: a9 :: c :: L := tl m9
theorem rp10 {a0 a1 a2 a3 a4 a5 a6 a7 a8 a9 c c' : Chunk} {L : List Chunk} : Rep c c' (a0 :: a1 :: a2 :: a3 :: a4 :: a5 :: a6 :: a7 :: a8 :: a9 :: c :: L) (a0 :: a1 :: a2 :: a3 :: a4 :: a5 :: a6 :: a7 :: a8 :: a9 :: c' :: L) := Rep.there rp9
theorem m11 {a0 a1 a2 a3 a4 a5 a6 a7 a8 a9 a10 c : Chunk} {L : List Chunk} : c ∈ a0 :: a1 :: a2 :: a3 :: a4 :: a5 :: a6 :: a7 :: a8 :: a9 :: a10 :: c :: L := tl m10
theorem rp11 {a0 a1 a2 a3 a4 a5 a6 a7 a8 a9 a10 c c' : Chunk} {L : List Chunk} : Rep c c' (a0 :: a1 :: a2 :: a3 :: a4 :: a5 :: a6 :: a7 :: a8 :: a9 :: a10 :: c :: L) (a0 :: a1 :: a2 :: a3 :: a4 :: a5 :: a6 :: a7 :: a8 :: a9 :: a10 :: c' :: L) := Rep.there rp10
theorem m12 {a0 a1 a2 a3 a4 a5 a6 a7 a8 a9 a10 a11 c : Chunk} {L : List Chunk} : c ∈ a0 :: a1 :: a2 :: a3 :: a4 :: a5 :: a6 :: a7 :: a8 :: a9 :: a10 :: a11 :: c :: L := tl m11
theorem rp12 {a0 a1 a2 a3 a4 a5 a6 a7 a8 a9 a10 a11 c c' : Chunk} {L : List Chunk} : Rep c c' (a0 :: a1 :: a2 :: a3 :: a4 :: a5 :: a6 :: a7 :: a8 :: a9 :: a10 :: a11 :: c :: L) (a0 :: a1 :: a2 :: a3 :: a4 :: a5 :: a6 :: a7 :: a8 :: a9 :: a10 :: a11 :: c' :: L) := Rep.there rp11
theorem m13 {a0 a1 a2 a3 a4 a5 a6 a7 a8 a9 a10 a11 a12 c : Chunk} {L : List Chunk} : c ∈ a0 :: a1 :: a2 :: a3 :: a4 :: a5 :: a6 :: a7 :: a8 :: a9 :: a10 :: a11 :: a12 :: c :: L := tl m12
theorem rp13 {a0 a1 a2 a3 a4 a5 a6 a7 a8 a9 a10 a11 a12 c c' : Chunk} {L : List Chunk} : Rep c c' (a0 :: a1 :: a2 :: a3 :: a4 :: a5 :: a6 :: a7 :: a8 :: a9 :: a10 :: a11 :: a12 :: c :: L) (a0 :: a1 :: a2 :: a3 :: a4 :: a5 :: a6 :: a7 :: a8 :: a9 :: a10 :: a11 :: a12 :: c' :: L) := Rep.there rp12
theorem m14 {a0 a1 a2 a3 a4 a5 a6 a7 a8 a9 a10 a11 a12 a13 c : Chunk} {L : List Chunk} : c ∈ a0 :: a1 :: a2 :: a3 :: a4 :: a5 :: a6 :: a7 :: a8 :: a9 :: a10 :: a11 :: a12 :: a13 :: c :: L := tl m13
theorem rp14 {a0 a1 a2 a3 a4 a5 a6 a7 a8 a9 a10 a11 a12 a13 c c' : Chunk} {L : List Chunk} : Rep c c' (a0 :: a1 :: a2 :: a3 :: a4 :: a5 :: a6 :: a7 :: a8 :: a9 :: a10 :: a11 :: a12 :: a13 :: c :: L) (a0 :: a1 :: a2 :: a3 :: a4 :: a5 :: a6 :: a7 :: a8 :: a9 :: a10 :: a11 :: a12 :: a13 :: c' :: L) := Rep.there rp13
theorem m15 {a0 a1 a2 a3 a4 a5 a6 a7 a8 a9 a10 a11 a12 a13 a14 c : Chunk} {L : List Chunk} : c ∈ a0 :: a1 :: a2 :: a3 :: a4 :: a5 :: a6 :: a7 :: a8 :: a9 :: a10 :: a11 :: a12 :: a13 :: a14 :: c :: L := tl m14
theorem rp15 {a0 a1 a2 a3 a4 a5 a6 a7 a8 a9 a10 a11 a12 a13 a14 c c' : Chunk} {L : List Chunk} : Rep c c' (a0 :: a1 :: a2 :: a3 :: a4 :: a5 :: a6 :: a7 :: a8 :: a9 :: a10 :: a11 :: a12 :: a13 :: a14 :: c :: L) (a0 :: a1 :: a2 :: a3 :: a4 :: a5 :: a6 :: a7 :: a8 :: a9 :: a10 :: a11 :: a12 :: a13 :: a14 :: c' :: L) := Rep.there rp14
theorem m16 {a0 a1 a2 a3 a4 a5 a6 a7 a8 a9 a10 a11 a12 a13 a14 a15 c : Chunk} {L : List Chunk} : c ∈ a0 :: a1 :: a2 :: a3 :: a4 :: a5 :: a6 :: a7 :: a8 :: a9 :: a10 :: a11 :: a12 :: a13 :: a14 :: a15 :: c :: L := tl m15
theorem rp16 {a0 a1 a2 a3 a4 a5 a6 a7 a8 a9 a10 a11 a12 a13 a14 a15 c c' : Chunk} {L : List Chunk} : Rep c c' (a0 :: a1 :: a2 :: a3 :: a4 :: a5 :: a6 :: a7 :: a8 :: a9 :: a10 :: a11 :: a12 :: a13 :: a14 :: a15 :: c :: L) (a0 :: a1 :: a2 :: a3 :: a4 :: a5 :: a6 :: a7 :: a8 :: a9 :: a10 :: a11 :: a12 :: a13 :: a14 :: a15 :: c' :: L) := Rep.there rp15
theorem m17 {a0 a1 a2 a3 a4 a5 a6 a7 a8 a9 a10 a11 a12 a13 a14 a15 a16 c : Chunk} {L : List Chunk} : c ∈ a0 :: a1 :: a2 :: a3 :: a4 :: a5 :: a6 :: a7 :: a8 :: a9 :: a10 :: a11 :: a12 :: a13 :: a14 :: a15 :: a16 :: c :: L := tl m16
theorem rp17 {a0 a1 a2 a3 a4 a5 a6 a7 a8 a9 a10 a11 a12 a13 a14 a15 a16 c c' : Chunk} {L : List Chunk} : Rep c c' (a0 :: a1 :: a2 :: a3 :: a4 :: a5 :: a6 :: a7 :: a8 :: a9 :: a10 :: a11 :: a12 :: a13 :: a14 :: a15 :: a16 :: c :: L) (a0 :: a1 :: a2 :: a3 :: a4 :: a5 :: a6 :: a7 :: a8 :: a9 :: a10 :: a11 :: a12 :: a13 :: a14 :: a15 :: a16 :: c' :: L) := Rep.there rp16
theorem m18 {a0 a1 a2 a3 a4 a5 a6 a7 a8 a9 a10 a11 a12 a13 a14 a15 a16 a17 c : Chunk} {L : List Chunk} : c ∈ a0 :: a1 :: a2 :: a3 :: a4 :: a5 :: a6 :: a7 :: a8 :: a9 :: a10 :: a11 :: a12 :: a13 :: a14 :: a15 :: a16 :: a17 :: c :: L := tl m17
theorem rp18 {a0 a1 a2 a3 a4 a5 a6 a7 a8 a9 a10 a11 a12 a13 a14 a15 a16 a17 c c' : Chunk} {L : List Chunk} : Rep c c' (a0 :: a1 :: a2 :: a3 :: a4 :: a5 :: a6 :: a7 :: a8 :: a9 :: a10 :: a11 :: a12 :: a13 :: a14 :: a15 :: a16 :: a17 :: c :: L) (a0 :: a1 :: a2 :: a3 :: a4 :: a5 :: a6 :: a7 :: a8 :: a9 :: a10 :: a11 :: a12 :: a13 :: a14 :: a15 :: a16 :: a17 :: c' :: L) := Rep.there rp17
theorem m19 {a0 a1 a2 a3 a4 a5 a6 a7 a8 a9 a10 a11 a12 a13 a14 a15 a16 a17 a18 c : Chunk} {L : List Chunk} : c ∈ a0 :: a1 :: a2 :: a3 :: a4 :: a5 :: a6 :: a7 :: a8 :: a9 :: a10 :: a11 :: a12 :: a13 :: a14 :: a15 :: a16 :: a17 :: a18 :: c :: L := tl m18
theorem rp19 {a0 a1 a2 a3 a4 a5 a6 a7 a8 a9 a10 a11 a12 a13 a14 a15 a16 a17 a18 c c' : Chunk} {L : List Chunk} : Rep c c' (a0 :: a1 :: a2 :: a3 :: a4 :: a5 :: a6 :: a7 :: a8 :: a9 :: a10 :: a11 :: a12 :: a13 :: a14 :: a15 :: a16 :: a17 :: a18 :: c :: L) (a0 :: a1 :: a2 :: a3 :: a4 :: a5 :: a6 :: a7 :: a8 :: a9 :: a10 :: a11 :: a12 :: a13 :: a14 :: a15 :: a16 :: a17 :: a18 :: c' :: L) := Rep.there rp18
theorem m20 {a0 a1 a2 a3 a4 a5 a6 a7 a8 a9 a10 a11 a12 a13 a14 a15 a16 a17 a18 a19 c : Chunk} {L : List Chunk} : c ∈ a0 :: a1 :: a2 :: a3 :: a4 :: a5 :: a6 :: a7 :: a8 :: a9 :: a10 :: a11 :: a12 :: a13 :: a14 :: a15 :: a16 :: a17 :: a18 :: a19 :: c :: L := tl m19
theorem rp20 {a0 a1 a2 a3 a4 a5 a6 a7 a8 a9 a10 a11 a12 a13 a14 a15 a16 a17 a18 a19 c c' : Chunk} {L : List Chunk} : Rep c c' (a0 :: a1 :: a2 :: a3 :: a4 :: a5 :: a6 :: a7 :: a8 :: a9 :: a10 :: a11 :: a12 :: a13 :: a14 :: a15 :: a16 :: a17 :: a18 :: a19 :: c :: L) (a0 :: a1 :: a2 :: a3 :: a4 :: a5 :: a6 :: a7 :: a8 :: a9 :: a10 :: a11 :: a12 :: a13 :: a14 :: a15 :: a16 :: a17 :: a18 :: a19 :: c' :: L) := Rep.there rp19
theorem m21 {a0 a1 a2 a3 a4 a5 a6 a7 a8 a9 a10 a11 a12 a13 a14 a15 a16 a17 a18 a19 a20 c : Chunk} {L : List Chunk} : c ∈ a0 :: a1 :: a2 :: a3 :: a4 :: a5 :: a6 :: a7 :: a8 :: a9 :: a10 :: a11 :: a12 :: a13 :: a14 :: a15 :: a16 :: a17 :: a18 :: a19 :: a20 :: c :: L := tl m20
theorem rp21 {a0 a1 a2 a3 a4 a5 a6 a7 a8 a9 a10 a11 a12 a13 a14 a15 a16 a17 a18 a19 a20 c c' : Chunk} {L : List Chunk} : Rep c c' (a0 :: a1 :: a2 :: a3 :: a4 :: a5 :: a6 :: a7 :: a8 :: a9 :: a10 :: a11 :: a12 :: a13 :: a14 :: a15 :: a16 :: a17 :: a18 :: a19 :: a20 :: c :: L) (a0 :: a1 :: a2 :: a3 :: a4 :: a5 :: a6 :: a7 :: a8 :: a9 :: a10 :: a11 :: a12 :: a13 :: a14 :: a15 :: a16 :: a17 :: a18 :: a19 :: a20 :: c' :: L) := Rep.there rp20
theorem m22 {a0 a1 a2 a3 a4 a5 a6 a7 a8 a9 a10 a11 a12 a13 a14 a15 a16 a17 a18 a19 a20 a21 c : Chunk} {L : List Chunk} : c ∈ a0 :: a1 :: a2 :: a3 :: a4 :: a5 :: a6 :: a7 :: a8 :: a9 :: a10 :: a11 :: a12 :: a13 :: a14 :: a15 :: a16 :: a17 :: a18 :: a19 :: a20 :: a21 :: c :: L := tl m21
theorem rp22 {a0 a1 a2 a3 a4 a5 a6 a7 a8 a9 a10 a11 a12 a13 a14 a15 a16 a17 a18 a19 a20 a21 c c' : Chunk} {L : List Chunk} : Rep c c' (a0 :: a1 :: a2 :: a3 :: a4 :: a5 :: a6 :: a7 :: a8 :: a9 :: a10 :: a11 :: a12 :: a13 :: a14 :: a15 :: a16 :: a17 :: a18 :: a19 :: a20 :: a21 :: c :: L) (a0 :: a1 :: a2 :: a3 :: a4 :: a5 :: a6 :: a7 :: a8 :: a9 :: a10 :: a11 :: a12 :: a13 :: a14 :: a15 :: a16 :: a17 :: a18 :: a19 :: a20 :: a21 :: c' :: L) := Rep.there rp21
theorem St.upd {w0 w w' : World} {L L' : List Chunk} {c c' : Chunk} {row : Option Nat} (h : St w0 L w) (hr : Rep c c' L L') (hg : w.grownBy w' row) (hrow : ∀ k, row = some k → c.foot k)
    (hc' : c'.holds w') (hf : ∀ k, c'.foot k → c.foot k ∨ w.heap.size ≤ k) : St w0 L' w' := by
  have hs := h.1.size
  have hcm : c ∈ L := hr.mem
  obtain ⟨A, B, rfl, rfl⟩ := hr
  have hcB := (h.2.1 c hcm).2
  have hbel : Below w0.heap.size w w' := ⟨hg.os, hg.tape, hg.output, hg.size, fun k hk => hg.block k (by omega) (fun e => by
    have := hcB k (hrow k e.symm); omega)⟩
  have hp := h.2.2
  have hpA := List.pairwise_append.1 hp
  have hpc := List.pairwise_cons.1 hpA.2.1
  have other : ∀ d, d ∈ A ∨ d ∈ B → ∀ k, d.foot k → w'.heap[k]? = w.heap[k]? := fun d hd k hk => by
    have hm : d ∈ A ++ c :: B := by rcases hd with hd | hd <;> simp [hd]
    refine hg.block k (h.lt hm hk) (fun e => ?_)
    have hck := hrow k e.symm
    rcases hd with hd | hd
    · exact hpA.2.2 d hd c (by simp) k hk hck
    · exact hpc.1 d hd k hck hk
  refine ⟨h.1.trans hbel, fun d hd => ?_, ?_⟩
  · rcases List.mem_append.1 hd with hd | hd
    · exact ⟨d.loc _ _ (h.2.1 d (by simp [hd])).1 (other d (.inl hd)), (h.2.1 d (by simp [hd])).2⟩
    · rcases List.mem_cons.1 hd with rfl | hd
      · exact ⟨hc', fun k hk => by
          rcases hf k hk with h1 | h1
          · exact hcB k h1
          · omega⟩
      · exact ⟨d.loc _ _ (h.2.1 d (by simp [hd])).1 (other d (.inr hd)), (h.2.1 d (by simp [hd])).2⟩
  · refine List.pairwise_append.2 ⟨hpA.1, List.pairwise_cons.2 ⟨fun d hd k hk hk' => ?_, hpc.2⟩, fun d hd e he k hk hk' => ?_⟩
    · rcases hf k hk with h1 | h1
      · exact hpc.1 d hd k h1 hk'
      · have := h.lt (c := d) (by simp [hd]) hk'; omega
    · rcases List.mem_cons.1 he with rfl | he
      · rcases hf k hk' with h1 | h1
        · exact hpA.2.2 d hd c (by simp) k hk h1
        · have := h.lt (c := d) (by simp [hd]) hk; omega
      · exact hpA.2.2 d hd e (by simp [he]) k hk hk'

theorem grownBy_setCell (w : World) (p : Addr) (v : Value) : w.grownBy (w.setCell p v) (some p.block) :=
  ⟨rfl, rfl, rfl, by simp [World.setCell], fun k _ hne => Below.heap_setCell w p v k (fun e => hne (by rw [e]))⟩

theorem blk_set {w : World} {g : Nat} {t : TypeId} {cs : List Value} (h : (blk g t cs).holds w) (i : Nat) (v : Value) : (blk g t (cs.set i v)).holds (w.setCell ⟨g, i, none⟩ v) := by
  show (w.setCell ⟨g, i, none⟩ v).heap[g]? = _
  have h' : w.heap[g]? = some (.cells cs.toArray t (0, 0)) := h
  simp [World.setCell, Array.getElem?_modify, h']

theorem blk_cell {w : World} {g : Nat} {t : TypeId} {cs : List Value} (h : (blk g t cs).holds w) (i : Nat) : w.cell? ⟨g, i, none⟩ = cs[i]? := by
  have h' : w.heap[g]? = some (.cells cs.toArray t (0, 0)) := h
  simp [cell_of_row w g i _ t _ h']

theorem blk_free {w : World} {g : Nat} {t : TypeId} {cs : List Value} (h : (blk g t cs).holds w) (i : Nat) : w.frozen? ⟨g, i, none⟩ = false := by
  have h' : w.heap[g]? = some (.cells cs.toArray t (0, 0)) := h
  simp [World.frozen?, h']

/-! ### Frames -/
def nth : List Value → Nat → Value
  | [], _ => undef
  | v :: _, 0 => v
  | _ :: l, n + 1 => nth l n
def setn : List Value → Nat → Value → List Value
  | [], _, _ => []
  | _ :: l, 0, u => u :: l
  | v :: l, n + 1, u => v :: setn l n u
def setd (l : List Value) : Option Tmp → Value → List Value
  | some d, v => setn l d v
  | none, _ => l
def fr (l : List Value) : Act := { tmps := l.toArray, defers := [] }
def ev (l : List Value) : Operand → Value
  | .tmp t => nth l t
  | .const v => v
  | .global g => .pointer (some ⟨g, 0, none⟩)
  | .func f => .func (.func f) #[] #[]
theorem nth_eq (l : List Value) : ∀ n, nth l n = l.toArray.getD n undef := by
  induction l with
  | nil => intro n; simp [nth]
  | cons v l ih => intro n; cases n <;> simp_all [nth]
theorem setn_eq (l : List Value) : ∀ n u, setn l n u = l.set n u := by
  induction l with
  | nil => intro n u; rfl
  | cons v l ih => intro n u; cases n <;> simp_all [setn]
theorem fr_eval (l : List Value) : (fr l).eval = ev l := by
  funext x
  cases x <;> simp [Act.eval, fr, ev, nth_eq]
theorem fr_put (l : List Value) (d : Option Tmp) (v : Value) : (fr l).put d v = fr (setd l d v) := by
  cases d <;> simp [Act.put, fr, setd, setn_eq]

/-! ### One operation -/
def Pure (P : Program) (o : Oper) (l : List Value) (v : Value) : Prop := ∀ w, (execOp (ev l) o).run P w = .ok (.value v) w
/-- The operation reads what is owned, or was there before. -/
def Sil (P : Program) (w0 : World) (L : List Chunk) (o : Oper) (l : List Value) (v : Value) : Prop :=
  ∀ F w, (∀ c ∈ L, c ∈ F) → St w0 F w → (execOp (ev l) o).run P w = .ok (.value v) w
def OpT (P : Program) (o : Oper) (l : List Value) (w : World) (R : Value → World → Prop) : Prop :=
  ∀ (K : Act → World → Prop) (Q : Exit → Act → World → Prop), (∀ v w', R v w' → K (fr (setd l o.dst v)) w') → o.wp P (fr l) w K Q

theorem OpT.of_run {P : Program} {o : Oper} {l : List Value} {w w' : World} {v : Value} {R : Value → World → Prop} (h : (execOp (ev l) o).run P w = .ok (.value v) w') (hR : R v w') : OpT P o l w R := by
  intro K Q hK
  unfold Oper.wp
  rw [fr_eval, h, Oper.upon_value, fr_put]
  exact hK _ _ hR
theorem OpT.of_skip {P : Program} {o : Oper} {l : List Value} {w w' : World} {R : Value → World → Prop} (h : (execOp (ev l) o).run P w = .ok .skip w') (hR : R undef w') : OpT P o l w R := by
  intro K Q hK
  unfold Oper.wp
  rw [fr_eval, h, Oper.upon_skip, fr_put]
  exact hK _ _ hR
theorem OpT.of_enter {P : Program} {o : Oper} {l : List Value} {w w' : World} {f : FuncId} {args : Array Value} {R : Value → World → Prop} (h : (execOp (ev l) o).run P w = .ok (.enter f args) w')
    (hc : Calls P f args w' fun e w'' => ∃ v, e = .returned v ∧ R v w'') : OpT P o l w R := by
  intro K Q hK
  unfold Oper.wp
  rw [fr_eval, h, Oper.upon_enter]
  refine hc.mono ?_
  rintro e w'' ⟨v, rfl, hR⟩
  show K ((fr l).put o.dst v) w''
  rw [fr_put]
  exact hK _ _ hR

/-- What a world-turning operation gives: a value and fresh chunks by a choice r. -/
def Loud {ρ : Type} (P : Program) (w0 : World) (L : List Chunk) (o : Oper) (l : List Value) (ok : ρ → Prop) (val : ρ → Value) (D : ρ → List Chunk) : Prop :=
  ∀ F w, (∀ c ∈ L, c ∈ F) → St w0 F w → OpT P o l w fun v w' => ∃ r, ok r ∧ v = val r ∧ St w0 (D r ++ F) w'
def Upd {ρ : Type} (P : Program) (w0 : World) (L : List Chunk) (o : Oper) (l : List Value) (ok : ρ → Prop) (val : ρ → Value) (L' : ρ → List Chunk) : Prop :=
  ∀ w, St w0 L w → OpT P o l w fun v w' => ∃ r, ok r ∧ v = val r ∧ St w0 (L' r) w'

def nthD : List Oper → Nat → Option Tmp
  | [], _ => none
  | o :: _, 0 => o.dst
  | _ :: l, n + 1 => nthD l n
def nthP : List Oper → Nat → Option Oper
  | [], _ => none
  | o :: _, 0 => some o
  | _ :: l, n + 1 => nthP l n
/-- Is an operation with this guard carried out? -/
def wantL (ops : List Oper) (l : List Value) : Option (Nat × Bool) → Bool
  | none => true
  | some (j, b) => match nthD ops j with
    | some t => match nth l t with
      | .bool c => c == b
      | _ => false
    | none => false
theorem nthD_eq : ∀ (ops : List Oper) j, (ops[j]?).bind (·.dst) = nthD ops j
  | [], _ => by simp [nthD]
  | o :: l, 0 => by simp [nthD]
  | o :: l, n + 1 => by simpa [nthD] using nthD_eq l n
theorem nthP_eq : ∀ (ops : List Oper) j, ops[j]? = nthP ops j
  | [], _ => by simp [nthP]
  | o :: l, 0 => by simp [nthP]
  | o :: l, n + 1 => by simpa [nthP] using nthP_eq l n
theorem wanted_eq (ops : Array Oper) (l : List Value) (o : Oper) : Region.wanted o (yielded ops (fr l).tmps) = wantL ops.toList l o.guard := by
  unfold Region.wanted wantL
  cases o.guard with
  | none => rfl
  | some jb =>
    obtain ⟨j, b⟩ := jb
    simp only [yielded, ← nthD_eq, Array.getElem?_toList]
    cases h : (ops[j]?).bind (·.dst) with
    | none => simp
    | some t =>
      have e : (fr l).tmps[t]? = l[t]? := by simp [fr]
      simp only [Option.bind_some, e]
      have e2 : nth l t = (l[t]?).getD undef := by rw [nth_eq]; simp
      rw [e2]
      cases hl : l[t]? with
      | none => simp [undef]
      | some v => cases v <;> simp

/-! ### A region in the text's order -/
section
variable {P : Program} {w0 : World} {L : List Chunk} {ops : Array Oper} {Q : Exit → Act → World → Prop} {rest : List Oper} {l : List Value} {o : Oper} {v : Value} {id : Nat}

theorem region (k : Hold w0 L (wpList P ops Q ops.toList (fr l))) : Hold w0 L ((Code.region id ops false).wp P Q (fr l)) :=
  fun w hw => wp_region_list (k w hw)
theorem region_lit {lo : List Oper} (k : Hold w0 L (wpList P lo.toArray Q lo (fr l))) : Hold w0 L ((Code.region id lo.toArray false).wp P Q (fr l)) :=
  fun w hw => wp_region_lit (k w hw)
theorem seq_nil (k : Hold w0 L (Q .normal (fr l))) : Hold w0 L (wpList P ops Q [] (fr l)) := k
theorem seq_skip (hg : wantL ops.toList l o.guard = false) (k : Hold w0 L (wpList P ops Q rest (fr (setd l o.dst undef)))) : Hold w0 L (wpList P ops Q (o :: rest) (fr l)) := by
  intro w hw
  unfold wpList
  rw [if_neg (by rw [wanted_eq, hg]; simp), fr_put]
  exact k w hw
theorem seq_op {R : World → Value → World → Prop} (hg : wantL ops.toList l o.guard = true) (h : ∀ w, St w0 L w → OpT P o l w (R w))
    (k : ∀ w, St w0 L w → ∀ v w', R w v w' → wpList P ops Q rest (fr (setd l o.dst v)) w') : Hold w0 L (wpList P ops Q (o :: rest) (fr l)) := by
  intro w hw
  unfold wpList
  rw [if_pos (by rw [wanted_eq]; exact hg)]
  exact .inl (h w hw _ _ (k w hw))
theorem seq_pure (h : Pure P o l v) (hg : wantL ops.toList l o.guard = true) (k : Hold w0 L (wpList P ops Q rest (fr (setd l o.dst v)))) : Hold w0 L (wpList P ops Q (o :: rest) (fr l)) :=
  seq_op (R := fun w v' w' => v' = v ∧ w' = w) hg (fun w _ => OpT.of_run (h w) ⟨rfl, rfl⟩) (fun w hw _ _ ⟨hv, hw'⟩ => by subst hv; subst hw'; exact k _ hw)
theorem seq_sil (h : Sil P w0 L o l v) (hg : wantL ops.toList l o.guard = true) (k : Hold w0 L (wpList P ops Q rest (fr (setd l o.dst v)))) : Hold w0 L (wpList P ops Q (o :: rest) (fr l)) :=
  seq_op (R := fun w v' w' => v' = v ∧ w' = w) hg (fun w hw => OpT.of_run (h L w (fun _ h => h) hw) ⟨rfl, rfl⟩) (fun w hw _ _ ⟨hv, hw'⟩ => by subst hv; subst hw'; exact k _ hw)
theorem seq_loud {ρ : Type} {ok : ρ → Prop} {val : ρ → Value} {D : ρ → List Chunk} (h : Loud P w0 L o l ok val D) (hg : wantL ops.toList l o.guard = true)
    (k : ∀ r, ok r → Hold w0 (D r ++ L) (wpList P ops Q rest (fr (setd l o.dst (val r))))) : Hold w0 L (wpList P ops Q (o :: rest) (fr l)) :=
  seq_op hg (fun w hw => h L w (fun _ h => h) hw) (fun _ _ v w' ⟨r, hr, hv, hst⟩ => by subst hv; exact k r hr w' hst)
theorem seq_upd {ρ : Type} {ok : ρ → Prop} {val : ρ → Value} {L' : ρ → List Chunk} (h : Upd P w0 L o l ok val L') (hg : wantL ops.toList l o.guard = true)
    (k : ∀ r, ok r → Hold w0 (L' r) (wpList P ops Q rest (fr (setd l o.dst (val r))))) : Hold w0 L (wpList P ops Q (o :: rest) (fr l)) :=
  seq_op hg (fun w hw => h w hw) (fun _ _ v w' ⟨r, hr, hv, hst⟩ => by subst hv; exact k r hr w' hst)
end

/-! ### Code -/
section
variable {P : Program} {w0 : World} {L : List Chunk} {Q : Exit → Act → World → Prop} {l : List Value} {x y : Code} {id n : Nat} {c : Operand} {b : Bool}
theorem seq (k : Hold w0 L (x.wp P (Exit.then (y.wp P Q) Q) (fr l))) : Hold w0 L ((Code.seq x y).wp P Q (fr l)) := fun w hw => wp_seq (k w hw)
theorem skip (k : Hold w0 L (Q .normal (fr l))) : Hold w0 L (Code.skip.wp P Q (fr l)) := fun w hw => wp_skip (k w hw)
theorem label (k : Hold w0 L (Q .normal (fr l))) : Hold w0 L ((Code.label n).wp P Q (fr l)) := fun w hw => wp_label (k w hw)
theorem exit (k : Hold w0 L (Q (.exit id) (fr l))) : Hold w0 L ((Code.exit id).wp P Q (fr l)) := fun w hw => wp_exit (k w hw)
theorem ret (k : Hold w0 L (Q .ret (fr l))) : Hold w0 L (Code.ret.wp P Q (fr l)) := fun w hw => wp_ret (k w hw)
theorem block (k : Hold w0 L (x.wp P (Exit.inBlock id Q) (fr l))) : Hold w0 L ((Code.block id x).wp P Q (fr l)) := fun w hw => wp_block (k w hw)
theorem cond (hc : ev l c = .bool b) (kt : b = true → Hold w0 L (x.wp P Q (fr l))) (kf : b = false → Hold w0 L (y.wp P Q (fr l))) : Hold w0 L ((Code.cond c x y).wp P Q (fr l)) :=
  fun w hw => wp_cond_split (t := b) (by rw [fr_eval]; exact hc) (fun h => kt h w hw) (fun h => kf h w hw)
theorem cond_true (hc : ev l c = .bool true) (kt : Hold w0 L (x.wp P Q (fr l))) : Hold w0 L ((Code.cond c x y).wp P Q (fr l)) :=
  cond hc (fun _ => kt) (fun h => by cases h)
theorem cond_false (hc : ev l c = .bool false) (kf : Hold w0 L (y.wp P Q (fr l))) : Hold w0 L ((Code.cond c x y).wp P Q (fr l)) :=
  cond hc (fun h => by cases h) (fun _ => kf)
/-- Only what is still wanted is carried on. -/
theorem weaken {G : World → Prop} {L' : List Chunk} (hs : List.Sublist L' L) (k : Hold w0 L' G) : Hold w0 L G := fun w hw => k w (hw.sub hs)
theorem reorder {G : World → Prop} {L' : List Chunk} (hs : L.Perm L') (k : Hold w0 L' G) : Hold w0 L G := fun w hw => k w (hw.perm hs)
/-- A loop: the states at a round's head are those of I. -/
theorem loop (I : List Value → List Chunk → Prop) (μ : List Value → Nat) (h0 : I l L)
    (round : ∀ l L, I l L → Hold w0 L (x.wp P (Exit.then (fun a w => ∃ l' L', a = fr l' ∧ I l' L' ∧ μ l' < μ l ∧ St w0 L' w) Q) (fr l))) :
    Hold w0 L ((Code.loop x).wp P Q (fr l)) := by
  intro w hw
  refine wp_loop (fun a w => ∃ l L, a = fr l ∧ I l L ∧ St w0 L w) (fun a _ => μ a.tmps.toList) ⟨l, L, rfl, h0, hw⟩ ?_
  rintro a w ⟨l, L, rfl, hI, hst⟩
  refine wp_mono (round l L hI w hst) (fun e a' w' hq => ?_)
  cases e with
  | normal =>
    obtain ⟨l', L', rfl, hI', hlt, hst'⟩ := hq
    exact ⟨⟨l', L', rfl, hI', hst'⟩, by simpa [fr] using hlt⟩
  | _ => exact hq
theorem round_end {I : List Value → List Chunk → Prop} {μ : List Value → Nat} {l0 : List Value} (hI : I l L) (hμ : μ l < μ l0) :
    Hold w0 L (fun w => ∃ l' L', fr l = fr l' ∧ I l' L' ∧ μ l' < μ l0 ∧ St w0 L' w) := fun _ hw => ⟨l, L, rfl, hI, hμ, hw⟩
end

/-! ### A call's contract -/
/-- The call returns the value of some choice r that is ok, in a world in which all that was there is as it was, and which holds D r besides. -/
def Ret {ρ : Type} (ok : ρ → Prop) (val : ρ → Value) (D : ρ → List Chunk) (w : World) : Ending → World → Prop :=
  fun e w' => ∃ r, ok r ∧ e = .returned (val r) ∧ St w (D r) w'
/-- The call only computes: its value is v. -/
def Gives (v : Value) (w : World) : Ending → World → Prop := fun e w' => e = .returned v ∧ Below w.heap.size w w'

theorem enter {P : Program} {f : FuncId} {fn : Func} {c : Code} {args : List Value} {n : Nat} {w : World} {R : Ending → World → Prop} (hf : P.funcs[f]? = some fn) (hb : fn.body = some c) (hn : fn.ntmps - args.length = n)
    (k : Hold w [] (c.wp P (bodyPost P fn R) (fr (args ++ List.replicate n undef)))) : Calls P f args.toArray w R := by
  refine calls_of_wp hf hb ?_
  have h1 := k w (St.start w)
  subst hn
  have e : args.toArray ++ Array.replicate (fn.ntmps - args.toArray.size) undef = (args ++ List.replicate (fn.ntmps - args.length) undef).toArray := by
    apply Array.toList_inj.1; simp
  rw [e]
  exact h1
theorem end_ret {P : Program} {fn : Func} {R : Ending → World → Prop} {w0 : World} {L : List Chunk} {l : List Value} {v : Value}
    (hr : ∀ w, St w0 L w → (results fn l.toArray).run P w = .ok v w) (k : Hold w0 L (R (.returned v))) : Hold w0 L (bodyPost P fn R .ret (fr l)) :=
  fun w hw => ⟨rfl, v, hr w hw, k w hw⟩
theorem end_normal {P : Program} {fn : Func} {R : Ending → World → Prop} {w0 : World} {L : List Chunk} {l : List Value} {v : Value}
    (hr : ∀ w, St w0 L w → (results fn l.toArray).run P w = .ok v w) (k : Hold w0 L (R (.returned v))) : Hold w0 L (bodyPost P fn R .normal (fr l)) :=
  fun w hw => ⟨rfl, v, hr w hw, k w hw⟩
theorem res_none {P : Program} {fn : Func} {l : List Value} (h : fn.results = #[]) (w : World) : (results fn l.toArray).run P w = .ok (.tuple #[]) w := results_none h _ _ _
theorem res_tmp {P : Program} {fn : Func} {l : List Value} {t : Tmp} (h : fn.results = #[.tmp t]) (w : World) : (results fn l.toArray).run P w = .ok (nth l t) w := by
  rw [results_tmp h, nth_eq]
theorem res_tmp2 {P : Program} {fn : Func} {l : List Value} {t u : Tmp} (h : fn.results = #[.tmp t, .tmp u]) (w : World) : (results fn l.toArray).run P w = .ok (.tuple #[nth l t, nth l u]) w := by
  rw [results_tmp2 h, nth_eq, nth_eq]
theorem gives {w : World} {L : List Chunk} {v v' : Value} (h : v = v') : Hold w L (Gives v' w (.returned v)) := fun _ hw => ⟨by rw [h], hw.1⟩
theorem rets {ρ : Type} {ok : ρ → Prop} {val : ρ → Value} {D : ρ → List Chunk} {w : World} {L : List Chunk} {v : Value} (r : ρ) (hok : ok r) (hv : v = val r) (hD : List.Sublist (D r) L) : Hold w L (Ret ok val D w (.returned v)) :=
  fun _ hw => ⟨r, hok, by rw [hv], hw.sub hD⟩

end Go.K

/-
  The operations' rules for the small logic of Ka: what each kind of operation gives, from facts on the program's types that are closed equations.
  No conditions: plain lemmas over any program.
-/
namespace Go.K
open Go.RowKit

/-! ### The program's types, as closed facts -/
def fo (P : Program) (s f : Nat) : Option Nat :=
  match P.underlying s with
  | some (.struct fs) => match fs[f]? with
    | some x => match P.info? x.type with
      | some i => if i.size = 0 then none else some x.offset
      | none => none
    | none => none
  | _ => none
def sl (P : Program) (t : TypeId) : Option (TypeId × Nat) :=
  match P.underlying t with
  | some (.slice e) => match P.info? e with
    | some i => some (e, i.size)
    | none => none
  | _ => none
def ar (P : Program) (t : TypeId) : Option (Nat × TypeId × Nat) :=
  match P.underlying t with
  | some (.array n e) => match P.info? e with
    | some i => some (n, e, i.size)
    | none => none
  | _ => none
def one (P : Program) (t : TypeId) : Bool :=
  match P.underlying t with
  | some (.struct _) | some (.array ..) | none => false
  | some _ => (P.info? t).any (·.size == 1)
def ag (P : Program) (t : TypeId) : Option Nat :=
  match P.underlying t with
  | some (.struct _) | some (.array ..) => (P.info? t).map (·.size)
  | _ => none
def zr (P : Program) (t : TypeId) : Option Value := (P.info? t).bind (·.zero)
def callable (P : Program) (f : FuncId) : Bool :=
  match P.funcs[f]? with
  | some fn => !(fn.name == "runtime.NumGoroutine") && fn.body.isSome
  | none => false

section
variable {P : Program}
theorem fo_spec {s f off : Nat} (h : fo P s f = some off) : ∃ fs x i, P.underlying s = some (.struct fs) ∧ fs[f]? = some x ∧ P.info? x.type = some i ∧ i.size ≠ 0 ∧ x.offset = off := by
  unfold fo at h
  split at h
  · rename_i fs hs
    split at h
    · rename_i x hx
      split at h
      · rename_i i hi
        split at h
        · cases h
        · rename_i h0
          exact ⟨fs, x, i, hs, hx, hi, h0, by simpa using h⟩
      · cases h
    · cases h
  · cases h
theorem sl_spec {t e n : Nat} (h : sl P t = some (e, n)) : ∃ i, P.underlying t = some (.slice e) ∧ P.info? e = some i ∧ i.size = n := by
  unfold sl at h
  split at h
  · rename_i e' hs
    split at h
    · rename_i i hi
      simp only [Option.some.injEq, Prod.mk.injEq] at h
      obtain ⟨rfl, rfl⟩ := h
      exact ⟨i, hs, hi, rfl⟩
    · cases h
  · cases h
theorem ar_spec {t m e n : Nat} (h : ar P t = some (m, e, n)) : ∃ i, P.underlying t = some (.array m e) ∧ P.info? e = some i ∧ i.size = n := by
  unfold ar at h
  split at h
  · rename_i m' e' hs
    split at h
    · rename_i i hi
      simp only [Option.some.injEq, Prod.mk.injEq] at h
      obtain ⟨rfl, rfl, rfl⟩ := h
      exact ⟨i, hs, hi, rfl⟩
    · cases h
  · cases h
theorem run_isAgg_one {t : TypeId} (h : one P t = true) (w : World) : (isAgg t).run P w = .ok false w ∧ ∃ i, P.info? t = some i ∧ i.size = 1 := by
  unfold one at h
  split at h
  · cases h
  · cases h
  · cases h
  · rename_i d h1 h2 hd
    refine ⟨?_, ?_⟩
    · unfold isAgg
      rw [Sem.run_bind, run_underlying hd w]
      cases d <;> first | rfl | (exfalso; exact h1 _ rfl) | (exfalso; exact h2 _ _ rfl)
    · cases hi : P.info? t with
      | none => simp [hi] at h
      | some i => exact ⟨i, rfl, by simpa [hi] using h⟩
theorem run_isAgg_ag {t n : Nat} (h : ag P t = some n) (w : World) : (isAgg t).run P w = .ok true w ∧ ∃ i, P.info? t = some i ∧ i.size = n := by
  unfold ag at h
  split at h
  · rename_i fs hd
    refine ⟨by unfold isAgg; rw [Sem.run_bind, run_underlying hd w]; rfl, ?_⟩
    cases hi : P.info? t with
    | none => simp [hi] at h
    | some i => exact ⟨i, rfl, by simpa [hi] using h⟩
  · rename_i m e hd
    refine ⟨by unfold isAgg; rw [Sem.run_bind, run_underlying hd w]; rfl, ?_⟩
    cases hi : P.info? t with
    | none => simp [hi] at h
    | some i => exact ⟨i, rfl, by simpa [hi] using h⟩
  · cases h
theorem zr_spec {t : TypeId} {z : Value} (h : zr P t = some z) (w : World) : (zeroValue t).run P w = .ok z w := by
  unfold zr at h
  cases hi : P.info? t with
  | none => simp [hi] at h
  | some i =>
    have hz : i.zero = some z := by simpa [hi] using h
    simp [zeroValue, typeInfo, hi, hz]
end

/-! ### Operations that touch no memory -/
section
variable {P : Program} {l : List Value} {d : Option Tmp} {ty : TypeId} {ps : String} {af : Array Edge} {g : Option (Nat × Bool)}
theorem move {x : Operand} : Pure P ⟨d, .move x, ty, ps, af, g⟩ l (ev l x) := fun _ => rfl
theorem assign {x : Operand} : Pure P ⟨d, .assign x, ty, ps, af, g⟩ l (ev l x) := fun _ => rfl
theorem pick {c x y : Operand} {t : Bool} (hc : ev l c = .bool t) : Pure P ⟨d, .pick c x y, ty, ps, af, g⟩ l (if t then ev l x else ev l y) := fun w => by
  simp [execOp, hc, asBool]
theorem pick_t {c x y : Operand} (hc : ev l c = .bool true) : Pure P ⟨d, .pick c x y, ty, ps, af, g⟩ l (ev l x) := pick hc
theorem pick_f {c x y : Operand} (hc : ev l c = .bool false) : Pure P ⟨d, .pick c x y, ty, ps, af, g⟩ l (ev l y) := pick hc
theorem extract {x : Operand} {i : Nat} {vs : List Value} (hx : ev l x = .tuple vs.toArray) (hi' : Nat.blt i vs.length = true) : Pure P ⟨d, .extract x i, ty, ps, af, g⟩ l (nth vs i) := fun w => by
  have hi : i < vs.length := by simpa using hi'
  have : vs[i]? = some (nth vs i) := by rw [nth_eq]; simp [hi]
  simp [execOp, hx, Instr.extract, this]
theorem add_lit (b i off : Nat) : (⟨b, i, none⟩ : Addr).add off = ⟨b, i + off, none⟩ := by
  unfold Addr.add; split <;> simp_all
theorem run_fieldAt {s f off : Nat} (h : fo P s f = some off) (a : Addr) (w : World) : (Instr.fieldAt s (.pointer (some a)) f).run P w = .ok (.pointer (some (a.add off))) w := by
  obtain ⟨fs, x, i, hs, hx, hi, h0, rfl⟩ := fo_spec h
  simp [Instr.fieldAt, Sem.run_bind, run_underlying hs w, hx, Instr.sureAddr, fieldPlace, sizeOf, typeInfo, hi, h0]
theorem fieldAddr {s f off : Nat} {x : Operand} {a : Addr} (h : fo P s f = some off) (hx : ev l x = .pointer (some a)) : Pure P ⟨d, .fieldAddr s x f, ty, ps, af, g⟩ l (.pointer (some (a.add off))) := fun w => by
  simp [execOp, hx, run_fieldAt h]
theorem fieldAddr_lit {s f off : Nat} {x : Operand} {b i : Nat} (h : fo P s f = some off) (hx : ev l x = .pointer (some ⟨b, i, none⟩)) : Pure P ⟨d, .fieldAddr s x f, ty, ps, af, g⟩ l (.pointer (some ⟨b, i + off, none⟩)) := by
  rw [← add_lit]; exact fieldAddr h hx
theorem indexAddr_sl {t e n : Nat} {x y : Operand} {a : Addr} {len cap : Nat} {k : IntKind} {z : Int} (h : sl P t = some (e, n)) (hx : ev l x = .slice (some a) len cap) (hy : ev l y = .int k z) (h0 : 0 ≤ z) (h1 : z < len) :
    Pure P ⟨d, .indexAddr t x y, ty, ps, af, g⟩ l (.pointer (some (a.add (z.toNat * n)))) := fun w => by
  obtain ⟨i, hs, hi, rfl⟩ := sl_spec h
  simp [execOp, hx, hy, Instr.indexAt, asIntOf, Sem.run_bind, run_underlying hs w, h0, h1, sizeOf, typeInfo, hi]
theorem indexAddr_ar {t m e n : Nat} {x y : Operand} {b o : Nat} {k : IntKind} {z : Int} (h : ar P t = some (m, e, n)) (hx : ev l x = .pointer (some ⟨b, o, none⟩)) (hy : ev l y = .int k z) (h0 : 0 ≤ z) (h1 : z < m) :
    Pure P ⟨d, .indexAddr t x y, ty, ps, af, g⟩ l (.pointer (some ⟨b, o + z.toNat * n, none⟩)) := fun w => by
  obtain ⟨i, hs, hi, rfl⟩ := ar_spec h
  simp [execOp, hx, hy, Instr.indexAt, Instr.sureAddr, asIntOf, Sem.run_bind, run_underlying hs w, h0, h1, sizeOf, typeInfo, hi, add_lit]
theorem run_index_ar {t m e : Nat} (h : ar P t = some (m, e, 1)) (ho : one P e = true) {cs : List Value} {k : IntKind} {z : Int} (h0 : 0 ≤ z) (h1 : z < m) (hl : cs.length = m) (w : World) :
    (Instr.index t (.agg cs.toArray) (.int k z)).run P w = .ok (nth cs z.toNat) w := by
  obtain ⟨i, hs, hi, hs1⟩ := ar_spec h
  have hlt : z.toNat < cs.length := by omega
  have : cs[z.toNat]? = some (nth cs z.toNat) := by rw [nth_eq]; simp [hlt]
  simp [Instr.index, asIntOf, Sem.run_bind, run_underlying hs w, h0, h1, sizeOf, typeInfo, hi, hs1, part, (run_isAgg_one ho w).1, this]
theorem len_sl {t ty' e n : Nat} {x : Operand} {a : Option Addr} {len cap : Nat} (h : sl P t = some (e, n)) (hx : ev l x = .slice a len cap) :
    Pure P ⟨d, .call { callee := .builtin .len, args := #[x], argTypes := #[t] }, ty', ps, af, g⟩ l (.int .i64 len) := fun w => by
  obtain ⟨i, hs, hi, rfl⟩ := sl_spec h
  simp [execOp, resolve, invoke, builtin, hx, Builtin.len_, Sem.run_bind, run_underlying hs w, goInt]
theorem max_int {ty' : Nat} {ts : Array TypeId} {x y : Operand} {k k' : IntKind} {m n : Int} (hx : ev l x = .int k m) (hy : ev l y = .int k' n) :
    Pure P ⟨d, .call { callee := .builtin .max, args := #[x, y], argTypes := ts }, ty', ps, af, g⟩ l (.int k (max m n)) := fun w => by
  have : (if n > m then n else m) = max m n := by split <;> omega
  simp [execOp, resolve, invoke, builtin, hx, hy, Builtin.max_, Builtin.max2, this]
theorem min_int {ty' : Nat} {ts : Array TypeId} {x y : Operand} {k k' : IntKind} {m n : Int} (hx : ev l x = .int k m) (hy : ev l y = .int k' n) :
    Pure P ⟨d, .call { callee := .builtin .min, args := #[x, y], argTypes := ts }, ty', ps, af, g⟩ l (.int k (min m n)) := fun w => by
  have : (if n < m then n else m) = min m n := by split <;> omega
  simp [execOp, resolve, invoke, builtin, hx, hy, Builtin.min_, Builtin.min2, this]
theorem not_ {xt : TypeId} {x : Operand} {b : Bool} (hx : ev l x = .bool b) : Pure P ⟨d, .unOp .not xt x, ty, ps, af, g⟩ l (.bool !b) := fun w => by
  simp [execOp, hx, Op.unary]
theorem neg_i64 {xt : TypeId} {x : Operand} {m : Int} (hx : ev l x = .int .i64 m) (h : -9223372036854775807 ≤ m ∧ m ≤ 9223372036854775807) : Pure P ⟨d, .unOp .neg xt x, ty, ps, af, g⟩ l (.int .i64 (-m)) := fun w => by
  have : IntKind.i64.wrap (0 - m) = -m := by rw [IntWalk.i64_in _ (by omega)]; omega
  simp only [execOp, hx, Op.unary, Op.intArith, this, Sem.run_bind, Sem.run_pure, Result.andThen_ok]
theorem mkFunc {fn : Fn} {first cap : List Operand} : Pure P ⟨d, .makeFunc fn first.toArray cap.toArray, ty, ps, af, g⟩ l (.func fn (first.map (ev l)).toArray (cap.map (ev l)).toArray) := fun w => by
  simp [execOp, Instr.makeFunc]

/-! Arithmetic of int (its kind i64), where nothing wraps -/
theorem add_i64 {xt yt : TypeId} {x y : Operand} {m n : Int} (hx : ev l x = .int .i64 m) (hy : ev l y = .int .i64 n) (h : -9223372036854775808 ≤ m + n ∧ m + n ≤ 9223372036854775807) :
    Pure P ⟨d, .binOp .add xt x y yt, ty, ps, af, g⟩ l (.int .i64 (m + n)) := fun w => by
  simp only [execOp, hx, hy, eqGuard_add, binOp_add, Op.intArith, IntWalk.i64_in _ h, Sem.run_bind, Sem.run_pure, Result.andThen_ok]
theorem sub_i64 {xt yt : TypeId} {x y : Operand} {m n : Int} (hx : ev l x = .int .i64 m) (hy : ev l y = .int .i64 n) (h : -9223372036854775808 ≤ m - n ∧ m - n ≤ 9223372036854775807) :
    Pure P ⟨d, .binOp .sub xt x y yt, ty, ps, af, g⟩ l (.int .i64 (m - n)) := fun w => by
  simp only [execOp, hx, hy, eqGuard_sub, binOp_sub, Op.intArith, IntWalk.i64_in _ h, Sem.run_bind, Sem.run_pure, Result.andThen_ok]
theorem mul_i64 {xt yt : TypeId} {x y : Operand} {m n : Int} (hx : ev l x = .int .i64 m) (hy : ev l y = .int .i64 n) (h : -9223372036854775808 ≤ m * n ∧ m * n ≤ 9223372036854775807) :
    Pure P ⟨d, .binOp .mul xt x y yt, ty, ps, af, g⟩ l (.int .i64 (m * n)) := fun w => by
  simp only [execOp, hx, hy, eqGuard_mul, binOp_mul, Op.intArith, IntWalk.i64_in _ h, Sem.run_bind, Sem.run_pure, Result.andThen_ok]
theorem quo_i64 {xt yt : TypeId} {x y : Operand} {m n : Int} (hx : ev l x = .int .i64 m) (hy : ev l y = .int .i64 n) (h0 : 0 ≤ m) (h1 : 0 < n) (h2 : m ≤ 9223372036854775807) :
    Pure P ⟨d, .binOp .quo xt x y yt, ty, ps, af, g⟩ l (.int .i64 (m / n)) := fun w => by
  have hd : m.tdiv n = m / n := Int.tdiv_eq_ediv_of_nonneg h0
  have hb : 0 ≤ m / n := Int.ediv_nonneg h0 (by omega)
  have hb' : m / n ≤ m := Int.ediv_le_self n h0
  have hw : IntKind.i64.wrap (m / n) = m / n := IntWalk.i64_in _ ⟨by omega, by omega⟩
  simp [execOp, hx, hy, eqGuard_quo, binOp_quo, Op.intDiv, show n ≠ 0 by omega, hd, hw]
theorem rem_i64 {xt yt : TypeId} {x y : Operand} {m n : Int} (hx : ev l x = .int .i64 m) (hy : ev l y = .int .i64 n) (h0 : 0 ≤ m) (h1 : 0 < n) :
    Pure P ⟨d, .binOp .rem xt x y yt, ty, ps, af, g⟩ l (.int .i64 (m % n)) := fun w => by
  have hd : m.tmod n = m % n := Int.tmod_eq_emod_of_nonneg h0
  simp [execOp, hx, hy, eqGuard_rem, binOp_rem, Op.intDiv, show n ≠ 0 by omega, hd]
section
variable {xt yt : TypeId} {x y : Operand} {k : IntKind} {m n : Int}
theorem eql (hx : ev l x = .int k m) (hy : ev l y = .int k n) : Pure P ⟨d, .binOp .eql xt x y yt, ty, ps, af, g⟩ l (.bool (decide (m = n))) := fun w => by
  simp [execOp, hx, hy, eqGuard_at_int, binOp_eql]; rfl
theorem neq (hx : ev l x = .int k m) (hy : ev l y = .int k n) : Pure P ⟨d, .binOp .neq xt x y yt, ty, ps, af, g⟩ l (.bool (decide (m ≠ n))) := fun w => by
  have : (m != n) = decide (m ≠ n) := by rw [Bool.eq_iff_iff]; simp
  simp [execOp, hx, hy, eqGuard_at_int, binOp_neq, this]
theorem lss (hx : ev l x = .int k m) (hy : ev l y = .int k n) : Pure P ⟨d, .binOp .lss xt x y yt, ty, ps, af, g⟩ l (.bool (decide (m < n))) := fun w => by
  simp [execOp, hx, hy, eqGuard_lss, binOp_lss]
theorem leq (hx : ev l x = .int k m) (hy : ev l y = .int k n) : Pure P ⟨d, .binOp .leq xt x y yt, ty, ps, af, g⟩ l (.bool (decide (m ≤ n))) := fun w => by
  simp [execOp, hx, hy, eqGuard_leq, binOp_leq]
theorem gtr (hx : ev l x = .int k m) (hy : ev l y = .int k n) : Pure P ⟨d, .binOp .gtr xt x y yt, ty, ps, af, g⟩ l (.bool (decide (m > n))) := fun w => by
  simp [execOp, hx, hy, eqGuard_gtr, binOp_gtr]
theorem geq (hx : ev l x = .int k m) (hy : ev l y = .int k n) : Pure P ⟨d, .binOp .geq xt x y yt, ty, ps, af, g⟩ l (.bool (decide (m ≥ n))) := fun w => by
  simp [execOp, hx, hy, eqGuard_geq, binOp_geq]
end
theorem Pure.bool {o : Oper} {c b : Bool} (h : Pure P o l (.bool c)) (e : c = b) : Pure P o l (.bool b) := e ▸ h
theorem Pure.eq {o : Oper} {v u : Value} (h : Pure P o l v) (e : v = u) : Pure P o l u := e ▸ h
end

/-! ### Memory that is read -/
/-- From p on lie the cells us, as long as L is owned. -/
def PtrL (w0 : World) (L : List Chunk) (p : Addr) (us : List Value) : Prop :=
  ∀ F w, (∀ c ∈ L, c ∈ F) → St w0 F w → ∀ j u, us[j]? = some u → w.cell? (p.add j) = some u
theorem addr_add_add (a : Addr) (i j : Nat) : (a.add i).add j = a.add (i + j) := by
  unfold Addr.add
  by_cases hi : i = 0 <;> by_cases hj : j = 0 <;> simp [hi, hj, Nat.add_assoc]
theorem addr_block (a : Addr) (n : Nat) : (a.add n).block = a.block := by unfold Addr.add; split <;> rfl
section
variable {P : Program} {w0 : World} {L L' : List Chunk} {p : Addr} {us : List Value}
theorem PtrL.mono (h : PtrL w0 L p us) (hs : ∀ c ∈ L, c ∈ L') : PtrL w0 L' p us := fun F w hF hw => h F w (fun c hc => hF c (hs c hc)) hw
theorem PtrL.any (h : PtrL w0 [] p us) : PtrL w0 L p us := h.mono (by simp)
theorem PtrL.fld (h : PtrL w0 L p us) {k : Nat} : PtrL w0 L (p.add k) (us.drop k) := fun F w hF hw j u hu => by
  rw [addr_add_add]
  exact h F w hF hw _ u (by rw [← hu, List.getElem?_drop])
theorem PtrL.cut (h : PtrL w0 L p us) (n : Nat) : PtrL w0 L p (us.take n) := fun F w hF hw j u hu => h F w hF hw j u (by
  rw [List.getElem?_take] at hu; split at hu
  · exact hu
  · cases hu)
/-- What lay there before the call lies there still. -/
theorem PtrL.old (hb : p.block < w0.heap.size) (hc : ∀ j u, us[j]? = some u → w0.cell? (p.add j) = some u) : PtrL w0 [] p us := fun _ w _ hw j u hu =>
  (hw.1.cell (p := p.add j) (by rw [addr_block]; exact hb)).trans (hc j u hu)
theorem PtrL.own {g i : Nat} {t : TypeId} {cs : List Value} : PtrL w0 [blk g t cs] ⟨g, i, none⟩ (cs.drop i) := fun F w hF hw j u hu => by
  rw [add_lit, blk_cell (hw.2.1 (blk g t cs) (hF _ (by simp))).1]
  rw [List.getElem?_drop] at hu
  exact hu
variable {l : List Value} {d : Option Tmp} {ty : TypeId} {ps : String} {af : Array Edge} {g : Option (Nat × Bool)} {x : Operand}
theorem load1 {t : TypeId} {v : Value} (ho : one P t = true) (hx : ev l x = .pointer (some p)) (hp : PtrL w0 L p (v :: us)) : Sil P w0 L ⟨d, .load t x, ty, ps, af, g⟩ l v := fun F w hF hw => by
  have h0 := hp F w hF hw 0 v rfl
  have hp0 : p.add 0 = p := by simp [Addr.add]
  rw [hp0] at h0
  simp [execOp, hx, Instr.loadAt, Instr.sureAddr, loadVar, Sem.run_bind, (run_isAgg_one ho w).1, h0]
theorem loadA {t n : Nat} (ha : ag P t = some n) (hx : ev l x = .pointer (some p)) (hp : PtrL w0 L p us) (hn : n ≤ us.length) : Sil P w0 L ⟨d, .load t x, ty, ps, af, g⟩ l (.agg (us.take n).toArray) := fun F w hF hw => by
  obtain ⟨h1, i, hi, hs⟩ := run_isAgg_ag ha w
  have hc := run_loadCells_list (P := P) w p (us.take n) ((hp.cut n) F w hF hw)
  have hl : (us.take n).length = n := by simp; omega
  rw [hl] at hc
  simp [execOp, hx, Instr.loadAt, Instr.sureAddr, loadVar, Sem.run_bind, h1, sizeOf, typeInfo, hi, hs, hc]
theorem PtrL.own' {b i : Nat} {e : TypeId} {cs : List Value} (hm : blk b e cs ∈ L) : PtrL w0 L ⟨b, i, none⟩ (cs.drop i) :=
  (PtrL.own (w0 := w0) (g := b) (i := i) (t := e) (cs := cs)).mono (by intro c hc; simp at hc; subst hc; exact hm)
theorem load1_ix {t b i : Nat} {e : TypeId} {cs : List Value} (ho : one P t = true) (hx : ev l x = .pointer (some ⟨b, i, none⟩)) (hm : blk b e cs ∈ L) (hi : i < cs.length) : Sil P w0 L ⟨d, .load t x, ty, ps, af, g⟩ l (nth cs i) := by
  have h : PtrL w0 L ⟨b, i, none⟩ (cs.drop i) := PtrL.own' hm
  have e1 : cs.drop i = nth cs i :: cs.drop (i + 1) := by
    rw [List.drop_eq_getElem_cons hi, nth_eq]; simp [hi]
  rw [e1] at h
  exact load1 ho hx h
theorem loadA_ix {t b i n : Nat} {e : TypeId} {cs : List Value} (ha : ag P t = some n) (hx : ev l x = .pointer (some ⟨b, i, none⟩)) (hm : blk b e cs ∈ L) (hi : i + n ≤ cs.length) : Sil P w0 L ⟨d, .load t x, ty, ps, af, g⟩ l (.agg ((cs.drop i).take n).toArray) :=
  loadA ha hx (PtrL.own' hm) (by simp; omega)
theorem load1_own {t b i : Nat} {e : TypeId} {cs : List Value} (ho : one P t = true) (hx : ev l x = .pointer (some ⟨b, i, none⟩)) (hm : blk b e cs ∈ L) (hi : Nat.blt i cs.length = true) : Sil P w0 L ⟨d, .load t x, ty, ps, af, g⟩ l (nth cs i) :=
  load1_ix ho hx hm (by simpa using hi)
theorem loadA_own {t b i n : Nat} {e : TypeId} {cs : List Value} (ha : ag P t = some n) (hx : ev l x = .pointer (some ⟨b, i, none⟩)) (hm : blk b e cs ∈ L) (hi : Nat.ble (i + n) cs.length = true) : Sil P w0 L ⟨d, .load t x, ty, ps, af, g⟩ l (.agg ((cs.drop i).take n).toArray) :=
  loadA_ix ha hx hm (by simpa using hi)
theorem loadA_p {t n : Nat} (ha : ag P t = some n) (hx : ev l x = .pointer (some p)) (hp : PtrL w0 L p us) (hn : Nat.ble n us.length = true) : Sil P w0 L ⟨d, .load t x, ty, ps, af, g⟩ l (.agg (us.take n).toArray) :=
  loadA ha hx hp (by simpa using hn)
end

/-! ### Slices that read as lists -/
/-- The slice with base A holds, element by element, the cells e x of the things xs. -/
def Sl {E : Type} (w0 : World) (L : List Chunk) (A : Option Addr) (size : Nat) (e : E → List Value) (xs : List E) : Prop :=
  ∀ k x, xs[k]? = some x → ∃ a, A = some a ∧ PtrL w0 L (a.add (k * size)) (e x)
section
variable {P : Program} {w0 : World} {L L' : List Chunk} {E : Type} {A : Option Addr} {size : Nat} {e : E → List Value} {xs : List E}
theorem Sl.mono (h : Sl w0 L A size e xs) (hs : ∀ c ∈ L, c ∈ L') : Sl w0 L' A size e xs := fun k x hx => let ⟨a, ha, hp⟩ := h k x hx; ⟨a, ha, hp.mono hs⟩
theorem Sl.any (h : Sl w0 [] A size e xs) : Sl w0 L A size e xs := h.mono (by simp)
theorem Sl.nil : Sl w0 L A size e [] := fun k x hx => by simp at hx
variable {l : List Value} {d : Option Tmp} {ty : TypeId} {ps : String} {af : Array Edge} {g : Option (Nat × Bool)}
theorem Sl.index {t et : Nat} {x y : Operand} {len cap : Nat} {k : IntKind} {z : Int} {u : E} (h : Sl w0 L A size e xs) (ht : sl P t = some (et, size)) (hx : ev l x = .slice A len cap) (hy : ev l y = .int k z) (h0 : 0 ≤ z) (h1 : z < len) (hu : xs[z.toNat]? = some u) :
    ∃ p, Pure P ⟨d, .indexAddr t x y, ty, ps, af, g⟩ l (.pointer (some p)) ∧ PtrL w0 L p (e u) := by
  obtain ⟨a, rfl, hp⟩ := h _ _ hu
  exact ⟨_, indexAddr_sl ht hx hy h0 h1, hp⟩
/-- What lay there before the call. -/
def Rd {E : Type} (w : World) (A : Option Addr) (size : Nat) (e : E → List Value) (xs : List E) : Prop :=
  ∀ k x, xs[k]? = some x → ∃ a, A = some a ∧ a.block < w.heap.size ∧ ∀ j u, (e x)[j]? = some u → w.cell? ((a.add (k * size)).add j) = some u
theorem Rd.sl (h : Rd w0 A size e xs) : Sl w0 L A size e xs := fun k x hx => by
  obtain ⟨a, ha, hb, hc⟩ := h k x hx
  exact ⟨a, ha, (PtrL.old (by rw [addr_block]; exact hb) hc).any⟩
theorem Rd.nil {w : World} : Rd w A size e [] := fun k x hx => by simp at hx
/-- What is read of a slice in a state is readable by a callee. -/
theorem Sl.rd {F : List Chunk} {w : World} (h : Sl w0 L A size e xs) (hF : ∀ c ∈ L, c ∈ F) (hw : St w0 F w) (he : ∀ x, (e x) ≠ []) : Rd w A size e xs := fun k x hx => by
  obtain ⟨a, ha, hp⟩ := h k x hx
  refine ⟨a, ha, ?_, hp F w hF hw⟩
  cases hex : e x with
  | nil => exact absurd hex (he x)
  | cons u us =>
    have := World.block_lt_of_cell? w _ (hp F w hF hw 0 u (by rw [hex]; rfl))
    simpa [addr_block] using this
theorem flat_at {size j : Nat} {e : E → List Value} (hl : ∀ x, (e x).length = size) (hj : j < size) : ∀ (ys : List E) (k : Nat) (x : E), ys[k]? = some x → (ys.flatMap e)[k * size + j]? = (e x)[j]? := by
  intro ys
  induction ys with
  | nil => intro k x h; simp at h
  | cons y ys ih =>
    intro k x h
    cases k with
    | zero =>
      simp at h; subst h
      rw [List.flatMap_cons, List.getElem?_append_left (by rw [hl]; omega)]
      simp
    | succ k =>
      have h' : ys[k]? = some x := by simpa using h
      rw [List.flatMap_cons, List.getElem?_append_right (by rw [hl, Nat.succ_mul]; omega), hl, ← ih k x h']
      congr 1
      rw [Nat.succ_mul]; omega
theorem Sl.of_blk {b : Nat} {t : TypeId} {cs : List Value} (hl : ∀ x, (e x).length = size) (hcs : cs = xs.flatMap e) : Sl w0 [blk b t cs] (some ⟨b, 0, none⟩) size e xs := fun k x hx => by
  refine ⟨_, rfl, fun F w hF hw j u hu => ?_⟩
  have hj : j < size := by
    have := (List.getElem?_eq_some_iff.1 hu).1
    rw [hl] at this
    exact this
  rw [addr_add_add, add_lit, blk_cell (hw.2.1 (blk b t cs) (hF _ (by simp))).1, Nat.zero_add, hcs, flat_at hl hj xs k x hx]
  exact hu
theorem Sl.of_row {b : Nat} {t : TypeId} {n c : Nat} {ys : List Value} (hl : ∀ x, (e x).length = size) (hcs : ys = xs.flatMap e) : Sl w0 [row (.slice (some ⟨b, 0, none⟩) n c) t size n ys] (some ⟨b, 0, none⟩) size e xs := fun k x hx => by
  refine ⟨_, rfl, fun F w hF hw j u hu => ?_⟩
  have hj : j < size := by
    have := (List.getElem?_eq_some_iff.1 hu).1
    rw [hl] at this
    exact this
  have ho : w.ownsRow 0 t size (.slice (some ⟨b, 0, none⟩) n c) n ys := (hw.2.1 (row (.slice (some ⟨b, 0, none⟩) n c) t size n ys) (hF _ (by simp))).1
  rw [addr_add_add]
  refine ho.cells (g := b) rfl _ u ?_
  rw [hcs, flat_at hl hj xs k x hx]
  exact hu
end
end Go.K

/-
  The operations' rules, second part: new memory, stores, append, calls; regions that draw their order.
  No conditions: plain lemmas over any program.
-/
namespace Go.K
open Go.RowKit

def cl : Value → List Value
  | .agg a => a.toList
  | v => [v]
theorem cells_cl (v : Value) : v.cells.toList = cl v := by cases v <;> rfl

section
variable {P : Program} {w0 : World} {L L' : List Chunk} {l : List Value} {d : Option Tmp} {ty : TypeId} {ps : String} {af : Array Edge} {g : Option (Nat × Bool)}

/-! ### New memory -/
theorem box {t : TypeId} {x : Operand} : Loud P w0 L ⟨d, .box t x, ty, ps, af, g⟩ l (fun _ : Nat => True) (fun b => .pointer (some ⟨b, 0, none⟩)) (fun b => [blk b t (cl (ev l x))]) := fun F w _ hw => by
  refine OpT.of_run (w' := w.alloc (.cells (cl (ev l x)).toArray t)) ?_ ⟨w.heap.size, trivial, rfl, hw.new t (cl (ev l x))⟩
  rw [← cells_cl]
  simp [execOp, Instr.box, newVar, newRow]
theorem alloc {t : TypeId} {x : Value} (hz : zr P t = some x) : Loud P w0 L ⟨d, .alloc t, ty, ps, af, g⟩ l (fun _ : Nat => True) (fun b => .pointer (some ⟨b, 0, none⟩)) (fun b => [blk b t (cl x)]) := fun F w _ hw => by
  refine OpT.of_run (w' := w.alloc (.cells (cl x).toArray t)) ?_ ⟨w.heap.size, trivial, rfl, hw.new t (cl x)⟩
  rw [← cells_cl]
  simp [execOp, Instr.alloc, newVar, newRow, Sem.run_bind, zr_spec hz]
/-- A slice literal: its run, as a fact on the program's types. -/
def Bs (P : Program) (t : TypeId) (n : Nat) (parts : List (Nat × Value)) (e : TypeId) (cs : List Value) : Prop :=
  ∀ w, (Instr.buildSlice t n parts.toArray).run P w = .ok (.slice (some ⟨w.heap.size, 0, none⟩) n n) (w.alloc (.cells cs.toArray e))
theorem buildSlice {t n e : Nat} {parts : List (Nat × Operand)} {cs : List Value} (hb : Bs P t n (parts.map fun p => (p.1, ev l p.2)) e cs) :
    Loud P w0 L ⟨d, .buildSlice t n parts.toArray, ty, ps, af, g⟩ l (fun _ : Nat => True) (fun b => .slice (some ⟨b, 0, none⟩) n n) (fun b => [blk b e cs]) := fun F w _ hw => by
  refine OpT.of_run (w' := w.alloc (.cells cs.toArray e)) ?_ ⟨w.heap.size, trivial, rfl, hw.new e cs⟩
  have := hb w
  simp only [execOp, List.map_toArray, Sem.run_bind, this, Sem.run_pure, Result.andThen_ok]
/-- A struct or array literal: its run, as a fact on the program's types. -/
def Bl (P : Program) (t : TypeId) (parts : List (Nat × Value)) (v : Value) : Prop := ∀ w, (Instr.build t parts.toArray).run P w = .ok v w
theorem build {t : Nat} {parts : List (Nat × Operand)} {v : Value} (hb : Bl P t (parts.map fun p => (p.1, ev l p.2)) v) : Pure P ⟨d, .build t parts.toArray, ty, ps, af, g⟩ l v := fun w => by
  have := hb w
  simp only [execOp, List.map_toArray, Sem.run_bind, this, Sem.run_pure, Result.andThen_ok]

/-! ### Stores -/
def over (cs : List Value) : Nat → List Value → List Value
  | _, [] => cs
  | i, u :: us => over (setn cs i u) (i + 1) us
theorem over_eq : ∀ (us : List Value) (cs : List Value) (i : Nat), i + us.length ≤ cs.length → (over cs i us).toArray = (cs.take i ++ us ++ cs.drop (i + us.length)).toArray := by
  intro us
  induction us with
  | nil => intro cs i _; simp [over]
  | cons u us ih =>
    intro cs i h
    simp only [List.length_cons] at h
    rw [over, ih _ _ (by rw [setn_eq]; simp; omega), setn_eq]
    congr 1
    have hi : i < cs.length := by omega
    apply List.ext_getElem?
    intro j
    simp only [List.getElem?_append, List.getElem?_take, List.getElem?_drop, List.length_take, List.length_append, List.length_cons, List.getElem?_set, List.length_set, List.getElem?_cons]
    repeat' split
    all_goals (first | rfl | omega | (congr 1; omega) | (simp_all; done))
def sz (P : Program) (t : TypeId) : Option Nat := (P.info? t).map (·.size)
theorem grownBy_setRow (w : World) (b : Nat) (cs : Array Value) : w.grownBy (w.setRow b cs) (some b) :=
  ⟨rfl, rfl, rfl, by simp [World.setRow], fun k _ hne => by
    simp only [World.setRow, Array.getElem?_modify]
    rw [if_neg (fun e => hne (by rw [e]))]⟩
theorem store_ix {t n b i : Nat} {e : TypeId} {x y : Operand} {cs : List Value} (hn : sz P t = some n) (hx : ev l x = .pointer (some ⟨b, i, none⟩)) (hlen : (cl (ev l y)).length = n) (hfit : i + n ≤ cs.length)
    (h1 : (cl (ev l y)).all Value.oneCell' = true) (hr : Rep (blk b e cs) (blk b e (over cs i (cl (ev l y)))) L L') :
    Upd P w0 L ⟨d, .store t x y, ty, ps, af, g⟩ l (fun _ : Unit => True) (fun _ => undef) (fun _ => L') := fun w hw => by
  have hh : w.heap[b]? = some (.cells cs.toArray e (0, 0)) := (hw.2.1 _ hr.mem).1
  have hst := run_storeCells_at P b i e (cl (ev l y)) 0 cs.toArray w hh (by simp; omega) (by simpa using h1)
  simp only [Nat.add_zero] at hst
  rw [← over_eq _ _ _ (by omega)] at hst
  refine OpT.of_skip (w' := w.setRow b (over cs i (cl (ev l y))).toArray) ?_ ⟨(), trivial, rfl, hw.upd hr (grownBy_setRow w b _) (fun k hk => by cases hk; rfl) (setRow_heap w b cs.toArray _ e (0, 0) hh) (fun k hk => .inl hk)⟩
  unfold sz at hn
  cases hi : P.info? t with
  | none => simp [hi] at hn
  | some q =>
    have hs : q.size = n := by simpa [hi] using hn
    have hcs : (ev l y).cells.size = n := by rw [← hlen, ← cells_cl]; simp
    simp [execOp, hx, Instr.storeAt, Instr.sureAddr, storeVar, sizeOf, typeInfo, hi, hs, hcs, cells_cl, hst]

theorem store {t n b i : Nat} {e : TypeId} {x y : Operand} {cs : List Value} (hn : sz P t = some n) (hx : ev l x = .pointer (some ⟨b, i, none⟩)) (hlen : (cl (ev l y)).length = n) (hfit : Nat.ble (i + n) cs.length = true)
    (h1 : (cl (ev l y)).all Value.oneCell' = true) (hr : Rep (blk b e cs) (blk b e (over cs i (cl (ev l y)))) L L') :
    Upd P w0 L ⟨d, .store t x y, ty, ps, af, g⟩ l (fun _ : Unit => True) (fun _ => undef) (fun _ => L') := store_ix hn hx hlen (by simpa using hfit) h1 hr

/-! ### append -/
theorem nil_row {e : TypeId} {size : Nat} {G : World → Prop} (k : Hold w0 (row (.slice none 0 0) e size 0 [] :: L) G) : Hold w0 L G := fun w hw => k w ⟨hw.1, fun c hc => by
    rcases List.mem_cons.1 hc with rfl | hc
    · exact ⟨World.ownsRow_nil w 0 e size, fun k hk => by cases hk⟩
    · exact hw.2.1 c hc, List.pairwise_cons.2 ⟨fun c _ k hk => (by cases hk), hw.2.2⟩⟩
/-- The element type's row of the table, as one closed fact. -/
def el (P : Program) (t : TypeId) : Option (TypeId × Nat × Nat) :=
  match P.underlying t with
  | some (.slice e) => match P.info? e with
    | some i => match i.zero with
      | some z => if z.cells.size = i.size ∧ 0 < i.size then some (e, i.size, i.bytes) else none
      | none => none
    | none => none
  | _ => none
theorem el_spec {t e n b : Nat} (h : el P t = some (e, n, b)) : ∃ i z, P.underlying t = some (.slice e) ∧ P.info? e = some i ∧ i.zero = some z ∧ i.size = n ∧ i.bytes = b ∧ z.cells.size = n ∧ 0 < n := by
  unfold el at h
  split at h
  · rename_i e' hs
    split at h
    · rename_i i hi
      split at h
      · rename_i z hz
        split at h
        · rename_i hc
          simp only [Option.some.injEq, Prod.mk.injEq] at h
          obtain ⟨rfl, rfl, rfl⟩ := h
          exact ⟨i, z, hs, hi, hz, rfl, rfl, hc.1, hc.2⟩
        · cases h
      · cases h
    · cases h
  · cases h
theorem append {M : Nat → Nat → List Chunk} {t ty' e size bytes n m c c' : Nat} {A : Option Addr} {ad : Addr} {s x : Operand} {xs news : List Value} (ht : el P t = some (e, size, bytes)) (hs : ev l s = .slice A n c) (hx : ev l x = .slice (some ad) m c')
    (hp : PtrL w0 L ad news) (hl : news.length = m * size) (h1 : news.all Value.oneCell' = true) (hm : 0 < m) (hb : (n + m) * bytes ≤ 140737488355328) (hb' : n + m ≤ 140737488355328)
    (hr : ∀ b cap, Rep (row (.slice A n c) e size n xs) (row (.slice (some ⟨b, 0, none⟩) (n + m) cap) e size (n + m) (xs ++ news)) L (M b cap)) :
    Upd P w0 L ⟨d, .call { callee := .builtin .append, args := #[s, x], argTypes := #[t, t] }, ty', ps, af, g⟩ l (fun _ : Nat × Nat => True) (fun r => .slice (some ⟨r.1, 0, none⟩) (n + m) r.2) (fun r => M r.1 r.2) := fun w hw => by
  obtain ⟨i, z, hu, hi, hz, hsi, hby, hzs, hpos⟩ := el_spec ht
  have hown : w.ownsRow 0 e size (.slice A n c) n xs := (hw.2.1 _ (hr 0 0).mem).1
  obtain ⟨b, cap, w', hrun, h2, h3, h4, h5⟩ := run_append_lies (P := P) w t ty' 0 e i z size bytes hu hi hz hsi hby hzs hpos _ n xs hown ad m c' news hl (hp L w (fun _ h => h) hw) (by simpa using h1) hm (by simp only [maxLen]; omega) hb (Nat.zero_le _) _ rfl
  refine OpT.of_run (w' := w') ?_ ⟨(b, cap), trivial, rfl, hw.upd (hr b cap) h3 (fun k hk => hk) h2 (fun k hk => ?_)⟩
  · simp only [execOp, resolve, invoke, builtin, Sem.run_bind, Sem.run_pure, Result.andThen_ok, List.map_toArray, List.map_cons, List.map_nil, hs, hx, hrun]
  · have hk' : b = k := by simpa [row, Value.ownBlock] using hk
    subst hk'
    rcases h4 with h4 | h4
    · exact .inl h4
    · exact .inr (by omega)

/-! ### Calls -/
theorem run_call {f : FuncId} (hf : callable P f = true) (args : Array Value) (w : World) : (callFunc f args).run P w = .ok (.enter f args) w := by
  unfold callable at hf
  split at hf
  · rename_i fn hfn
    simp only [Bool.and_eq_true, Bool.not_eq_true'] at hf
    have hb : fn.body ≠ none := by intro h; rw [h] at hf; simp at hf
    have hn : fn.name ≠ "runtime.NumGoroutine" := by simpa using hf.1
    simp [callFunc, hfn, hn, hb]
  · cases hf
theorem call {ρ : Type} {ok : ρ → Prop} {val : ρ → Value} {D : ρ → List Chunk} {x : Operand} {args : List Operand} {f : FuncId} {first cap : List Value} {ts : Array TypeId} (hx : ev l x = .func (.func f) first.toArray cap.toArray) (hf : callable P f = true)
    (hc : ∀ F w, (∀ c ∈ L, c ∈ F) → St w0 F w → Calls P f (first ++ args.map (ev l) ++ cap).toArray w (Ret ok val D w)) :
    Loud P w0 L ⟨d, .call { callee := .value x, args := args.toArray, argTypes := ts }, ty, ps, af, g⟩ l ok val D := fun F w hF hw => by
  refine OpT.of_enter (w' := w) (f := f) (args := (first ++ args.map (ev l) ++ cap).toArray) ?_ ((hc F w hF hw).mono ?_)
  · have e : first.toArray ++ args.toArray.map (ev l) ++ cap.toArray = (first ++ args.map (ev l) ++ cap).toArray := by
      apply Array.toList_inj.1; simp
    simp only [execOp, resolve, hx, Deferred.ofValue, Sem.run_bind, Sem.run_pure, Result.andThen_ok, invoke, e, run_call hf]
  · rintro e w' ⟨r, hr, rfl, hb, hD⟩
    exact ⟨_, rfl, r, hr, rfl, hw.add hb hD⟩
theorem call_f {ρ : Type} {ok : ρ → Prop} {val : ρ → Value} {D : ρ → List Chunk} {args : List Operand} {f : FuncId} {ts : Array TypeId} (hf : callable P f = true)
    (hc : ∀ F w, (∀ c ∈ L, c ∈ F) → St w0 F w → Calls P f (args.map (ev l)).toArray w (Ret ok val D w)) :
    Loud P w0 L ⟨d, .call { callee := .value (.func f), args := args.toArray, argTypes := ts }, ty, ps, af, g⟩ l ok val D :=
  call (first := []) (cap := []) rfl hf (by simpa using hc)
/-- A call that only computes. -/
theorem Gives.ret {v : Value} {w : World} {e : Ending} {w' : World} (h : Gives v w e w') : Ret (fun _ : Unit => True) (fun _ => v) (fun _ => []) w e w' :=
  ⟨(), trivial, h.1, h.2, own_nil⟩
theorem call_g {args : List Operand} {f : FuncId} {ts : Array TypeId} {v : Value} (hf : callable P f = true)
    (hc : ∀ F w, (∀ c ∈ L, c ∈ F) → St w0 F w → Calls P f (args.map (ev l)).toArray w (Gives v w)) :
    Loud P w0 L ⟨d, .call { callee := .value (.func f), args := args.toArray, argTypes := ts }, ty, ps, af, g⟩ l (fun _ : Unit => True) (fun _ => v) (fun _ => []) :=
  call_f hf (fun F w hF hw => (hc F w hF hw).mono fun _ _ h => h.ret)
theorem callv_g {x : Operand} {args : List Operand} {f : FuncId} {first cap : List Value} {ts : Array TypeId} {v : Value} (hx : ev l x = .func (.func f) first.toArray cap.toArray) (hf : callable P f = true)
    (hc : ∀ F w, (∀ c ∈ L, c ∈ F) → St w0 F w → Calls P f (first ++ args.map (ev l) ++ cap).toArray w (Gives v w)) :
    Loud P w0 L ⟨d, .call { callee := .value x, args := args.toArray, argTypes := ts }, ty, ps, af, g⟩ l (fun _ : Unit => True) (fun _ => v) (fun _ => []) :=
  call hx hf (fun F w hF hw => (hc F w hF hw).mono fun _ _ h => h.ret)
section
variable {ops : Array Oper} {Q : Exit → Act → World → Prop} {rest : List Oper} {o : Oper}
theorem seq_call {v : Value} (h : Loud P w0 L o l (fun _ : Unit => True) (fun _ => v) (fun _ => [])) (hg : wantL ops.toList l o.guard = true) (k : Hold w0 L (wpList P ops Q rest (fr (setd l o.dst v)))) : Hold w0 L (wpList P ops Q (o :: rest) (fr l)) :=
  seq_loud h hg fun _ _ => k
theorem seq_st (h : Upd P w0 L o l (fun _ : Unit => True) (fun _ => undef) (fun _ => L')) (hg : wantL ops.toList l o.guard = true) (k : Hold w0 L' (wpList P ops Q rest (fr (setd l o.dst undef)))) : Hold w0 L (wpList P ops Q (o :: rest) (fr l)) :=
  seq_upd h hg fun _ _ => k
theorem seq_new {val : Nat → Value} {D : Nat → List Chunk} (h : Loud P w0 L o l (fun _ : Nat => True) val D) (hg : wantL ops.toList l o.guard = true) (k : ∀ b, Hold w0 (D b ++ L) (wpList P ops Q rest (fr (setd l o.dst (val b))))) : Hold w0 L (wpList P ops Q (o :: rest) (fr l)) :=
  seq_loud h hg fun b _ => k b
end
end
end Go.K

/-
  Regions that draw their order: what touches no world, and what reads only what no other operation of the region writes, may be taken first; what is left is met in its order.
  No conditions: plain lemmas over any program.
-/
namespace Go.K
open Go.RowKit

section
variable {P : Program} {ops : Array Oper} {Q : Exit → Act → World → Prop} {S : World → Prop} {B : Nat → Bool}

/-- Whatever order is picked from here on; behind every operation that B does not name S is kept. -/
def wpAnyU (P : Program) (ops : Array Oper) (Q : Exit → Act → World → Prop) (S : World → Prop) (B : Nat → Bool) : Nat → Array Bool → Act → World → Prop
  | 0, listed, a, w => Region.ready .any ops listed = [] ∧ Q .normal a w
  | fuel + 1, listed, a, w =>
    (Region.ready .any ops listed = [] → Q .normal a w) ∧
    ∀ i ∈ Region.ready .any ops listed, wpOp P ops Q i (fun a' w' => (B i = false → S w → S w') ∧ wpAnyU P ops Q S B fuel (listed.setIfInBounds i true) a' w') a w

theorem wpAny_of_U : ∀ (fuel : Nat) (listed : Array Bool) (a : Act) (w : World), wpAnyU P ops Q S B fuel listed a w → wpAny P .any ops Q fuel listed a w
  | 0, _, _, _, h => h
  | fuel + 1, _, _, _, h => ⟨h.1, fun i hi => wpOp_mono (fun a' w' h' => wpAny_of_U fuel _ a' w' h'.2) (h.2 i hi)⟩

def noPanic (Q : Exit → Act → World → Prop) : Exit → Act → World → Prop
  | .panic _, _, _ => False
  | e, a, w => Q e a w

/-- j waits for i by an edge of its own. -/
def waits (ops : Array Oper) (j i : Nat) : Bool :=
  match ops[j]? with
  | some oj => oj.after.any fun e => Region.binds .any e && e.on == i
  | none => false
theorem waits_spec {j i : Nat} (h : waits ops j i = true) : ∃ oj, ops[j]? = some oj ∧ ∃ e ∈ oj.after, Region.binds .any e = true ∧ e.on = i := by
  unfold waits at h
  split at h
  · rename_i oj hj
    obtain ⟨e, he, hb⟩ := Array.any_eq_true'.1 h
    simp only [Bool.and_eq_true, beq_iff_eq] at hb
    exact ⟨oj, hj, e, he, hb.1, hb.2⟩
  · cases h

theorem unlisted_ready {i j : Nat} {listed : Array Bool} (hi : listed.getD i true = false) (hw : waits ops j i = true) : j ∉ Region.ready .any ops listed := fun hr => by
  obtain ⟨_, oj, hoj, hall⟩ := mem_ready.1 hr
  obtain ⟨oj', hoj', e, he, hb, hon⟩ := waits_spec hw
  rw [hoj] at hoj'
  cases hoj'
  have h1 := hall e he hb
  rw [hon] at h1
  rcases Nat.lt_or_ge i listed.size with h' | h'
  · simp [h'] at hi h1; rw [hi] at h1; cases h1
  · simp [Array.getElem?_eq_none h'] at h1

/-- An operation that yields v in every world that meets S may be taken first, if nobody of B comes ahead of it. -/
theorem wpAnyU_mem {i : Nat} {oi : Oper} {v : Value} (hi : ops[i]? = some oi) (hsel : ∀ (j : Nat) (o : Oper) cs b, ops[j]? = some o → o.op ≠ .select cs b)
    (hQ : ∀ c a w, Q (.panic c) (a.put oi.dst v) w → Q (.panic c) a w) :
    ∀ (fuel : Nat) (listed : Array Bool) (a : Act) (w : World),
      (∀ j oj, ops[j]? = some oj → j ≠ i → listed.getD j true = false → (∀ e ∈ oj.after, Region.binds .any e = true → e.on ≠ i) → oi.apart ops oj = true) →
      (∀ j, B j = true → listed.getD j true = false → j ≠ i → waits ops j i = true) →
      i ∈ Region.ready .any ops listed → YieldsIf P ops S oi v a → S w →
      wpAnyU P ops Q S B fuel (listed.setIfInBounds i true) (a.put oi.dst v) w → wpAnyU P ops Q S B (fuel + 1) listed a w := by
  intro fuel
  induction fuel with
  | zero =>
    intro listed a w _ _ hr hy hS H
    refine ⟨fun h => (by rw [h] at hr; cases hr), fun j hj => ?_⟩
    by_cases hji : j = i
    · subst hji; exact hy.wpOp hi hS ⟨fun _ h => h, H⟩
    · have := ready_mono hj hji
      rw [H.1] at this
      cases this
  | succ fuel ih =>
    intro listed a w hfree hB hr hy hS H
    refine ⟨fun h => (by rw [h] at hr; cases hr), fun j hj => ?_⟩
    by_cases hji : j = i
    · subst hji; exact hy.wpOp hi hS ⟨fun _ h => h, H⟩
    · have h1 := H.2 j (ready_mono hj hji)
      obtain ⟨hjun, oj, hoj, hall⟩ := mem_ready.1 hj
      have hiun := (mem_ready.1 hr).1
      have hBj : B j = false := by
        cases hb : B j with
        | false => rfl
        | true => exact absurd hj (unlisted_ready hiun (hB j hb hjun hji))
      have hnot : ∀ e ∈ oj.after, Region.binds .any e = true → e.on ≠ i := fun e he hb heq => by
        have h1 := hall e he hb
        rw [heq] at h1
        rcases Nat.lt_or_ge i listed.size with h' | h'
        · simp [h'] at hiun h1; rw [hiun] at h1; cases h1
        · simp [Array.getElem?_eq_none h'] at h1
      have h2 := wpOp_putIf hoj (hfree j oj hoj hji hjun hnot) (fun cs b => hsel i oi cs b hi) (fun cs b => hsel j oj cs b hoj) hQ hy h1
      have back : ∀ k, (listed.setIfInBounds j true).getD k true = false → listed.getD k true = false := fun k hun => by
        by_cases hjk : j = k
        · subst hjk; exact hjun
        · rw [getD_set_ne true hjk] at hun; exact hun
      have hfree' : ∀ k ok, ops[k]? = some ok → k ≠ i → (listed.setIfInBounds j true).getD k true = false →
          (∀ e ∈ ok.after, Region.binds .any e = true → e.on ≠ i) → oi.apart ops ok = true := fun k ok hk hki hun hno => hfree k ok hk hki (back k hun) hno
      refine wpOp_mono (fun a' w' h3 => ⟨fun hb hs => h3.2.1 hb hs, ih (listed.setIfInBounds j true) a' w' hfree' (fun k hb hun hki => hB k hb (back k hun) hki) (ready_mono hr (Ne.symm hji)) h3.1 (h3.2.1 hBj hS) ?_⟩) h2
      rw [Array.setIfInBounds_comm _ _ hji]
      exact h3.2.2

/-- An operation that yields v in whatever world may be taken first. -/
theorem wpAnyU_pure {i : Nat} {oi : Oper} {v : Value} (hi : ops[i]? = some oi) (hsel : ∀ (j : Nat) (o : Oper) cs b, ops[j]? = some o → o.op ≠ .select cs b)
    (hQ : ∀ c a w, Q (.panic c) (a.put oi.dst v) w → Q (.panic c) a w) :
    ∀ (fuel : Nat) (listed : Array Bool) (a : Act) (w : World),
      (∀ j oj, ops[j]? = some oj → j ≠ i → listed.getD j true = false → (∀ e ∈ oj.after, Region.binds .any e = true → e.on ≠ i) → oi.apart ops oj = true) →
      i ∈ Region.ready .any ops listed → Yields P ops oi v a →
      wpAnyU P ops Q S B fuel (listed.setIfInBounds i true) (a.put oi.dst v) w → wpAnyU P ops Q S B (fuel + 1) listed a w := by
  intro fuel
  induction fuel with
  | zero =>
    intro listed a w _ hr hy H
    refine ⟨fun h => (by rw [h] at hr; cases hr), fun j hj => ?_⟩
    by_cases hji : j = i
    · subst hji; exact hy.wpOp hi ⟨fun _ h => h, H⟩
    · have := ready_mono hj hji
      rw [H.1] at this
      cases this
  | succ fuel ih =>
    intro listed a w hfree hr hy H
    refine ⟨fun h => (by rw [h] at hr; cases hr), fun j hj => ?_⟩
    by_cases hji : j = i
    · subst hji; exact hy.wpOp hi ⟨fun _ h => h, H⟩
    · have h1 := H.2 j (ready_mono hj hji)
      obtain ⟨hjun, oj, hoj, hall⟩ := mem_ready.1 hj
      have hiun := (mem_ready.1 hr).1
      have hnot : ∀ e ∈ oj.after, Region.binds .any e = true → e.on ≠ i := fun e he hb heq => by
        have h1 := hall e he hb
        rw [heq] at h1
        rcases Nat.lt_or_ge i listed.size with h' | h'
        · simp [h'] at hiun h1; rw [hiun] at h1; cases h1
        · simp [Array.getElem?_eq_none h'] at h1
      have h2 := wpOp_put hoj (hfree j oj hoj hji hjun hnot) (fun cs b => hsel i oi cs b hi) (fun cs b => hsel j oj cs b hoj) hQ hy h1
      have hfree' : ∀ k ok, ops[k]? = some ok → k ≠ i → (listed.setIfInBounds j true).getD k true = false →
          (∀ e ∈ ok.after, Region.binds .any e = true → e.on ≠ i) → oi.apart ops ok = true := fun k ok hk hki hun hno => by
        refine hfree k ok hk hki ?_ hno
        by_cases hjk : j = k
        · subst hjk; exact hjun
        · rw [getD_set_ne true hjk] at hun; exact hun
      refine wpOp_mono (fun a' w' h3 => ⟨fun hb hs => h3.2.1 hb hs, ih (listed.setIfInBounds j true) a' w' hfree' (ready_mono hr (Ne.symm hji)) h3.1 ?_⟩) h2
      rw [Array.setIfInBounds_comm _ _ hji]
      exact h3.2.2
end

/-! ### The moves -/
def Keeps (w0 : World) (A : List Chunk) (w : World) : Prop := ∃ F, (∀ c ∈ A, c ∈ F) ∧ St w0 F w
/-- May number i be taken now? -/
def takeB (ops : Array Oper) (listed : Array Bool) (i : Nat) : Bool := Region.noSelect ops && (Region.free .any ops listed i && (Region.ready .any ops listed).contains i)
def waitB (ops : Array Oper) (bl : List Nat) (listed : Array Bool) (i : Nat) : Bool := bl.all fun j => listed.getD j true || j == i || waits ops j i
def DHold (P : Program) (w0 : World) (ops : Array Oper) (Q : Exit → Act → World → Prop) (A : List Chunk) (bl : List Nat) (fuel : Nat) (listed : Array Bool) (l : List Value) (L : List Chunk) : Prop :=
  ∀ w, St w0 L w → wpAnyU P ops (noPanic Q) (Keeps w0 A) (fun j => bl.contains j) fuel listed (fr l) w

section
variable {P : Program} {w0 : World} {L A : List Chunk} {ops : Array Oper} {Q : Exit → Act → World → Prop} {l : List Value} {o : Oper} {v : Value} {id i fuel : Nat} {bl : List Nat} {listed : Array Bool}

theorem wpAny_noPanic : ∀ (fuel : Nat) (listed : Array Bool) (a : Act) (w : World), wpAny P .any ops (noPanic Q) fuel listed a w → wpAny P .any ops Q fuel listed a w := by
  have keyOp : ∀ (o : Oper) (K : Act → World → Prop) a w, o.wp P a w K (noPanic Q) → o.wp P a w K Q := fun o K a w h => by
    unfold Oper.wp at *
    generalize (execOp a.eval o).run P w = r at *
    cases r with
    | ok n w' =>
      cases n <;> simp only [Oper.upon] at h ⊢ <;> first
        | exact h
        | exact Calls.mono h (fun e w'' he => by cases e <;> first | exact he | exact he.elim | (obtain ⟨a0, w0, h0⟩ := he; exact ⟨a0, w0, h0⟩))
    | halt x w' => cases x <;> simp only [Oper.upon] at h ⊢ <;> first | exact h | exact h.elim
  have keyW : ∀ (i : Nat) (K : Act → World → Prop) a w, wpOp P ops (noPanic Q) i K a w → wpOp P ops Q i K a w := fun i K a w h => by
    unfold wpOp at *
    split
    · rename_i hn; simpa [hn] using h
    · rename_i o ho
      simp only [ho] at h
      split
      · rename_i hw
        simp only [hw, if_true] at h
        rcases h with h | ⟨hask, a0, w0, h0⟩
        · exact .inl (keyOp o K a w h)
        · exact .inr ⟨hask, a0, w0, h0⟩
      · rename_i hw; simpa [hw] using h
  intro fuel
  induction fuel with
  | zero => intro listed a w h; exact h
  | succ fuel ih => intro listed a w h; exact ⟨h.1, fun i hi => keyW i _ a w (wpOp_mono (fun a' w' h' => ih _ a' w' h') (h.2 i hi))⟩

theorem draw_lit {lo : List Oper} (A : List Chunk) (bl : List Nat) (hm : P.follows .mixedOrders = true) (k : DHold P w0 lo.toArray Q A bl lo.length (Array.replicate lo.length false) l L) :
    Hold w0 L ((Code.region id lo.toArray true).wp P Q (fr l)) := fun w hw => by
  have h1 := wpAny_noPanic _ _ _ _ (wpAny_of_U _ _ _ _ (k _ hw.drew))
  refine wp_region_any hm ?_
  rw [List.size_toArray]
  exact h1

theorem d_take (ht : takeB ops listed i = true) (ho : ops[i]? = some o) (hy : Yields P ops o v (fr l)) (k : DHold P w0 ops Q A bl fuel (listed.setIfInBounds i true) (setd l o.dst v) L) :
    DHold P w0 ops Q A bl (fuel + 1) listed l L := fun w hw => by
  simp only [takeB, Bool.and_eq_true] at ht
  refine wpAnyU_pure ho (Region.noSelect_spec ht.1) (fun _ _ _ h => h) fuel listed _ w (Region.free_spec ho ht.2.1) (by simpa using ht.2.2) hy ?_
  rw [fr_put]
  exact k w hw
theorem opAt (ho : nthP ops.toList i = some o) : ops[i]? = some o := by rw [← Array.getElem?_toList, nthP_eq]; exact ho
theorem d_pure (i : Nat) (ho : nthP ops.toList i = some o) (h : Pure P o l v) (ht : takeB ops listed i = true) (hg : wantL ops.toList l o.guard = true)
    (k : DHold P w0 ops Q A bl fuel (listed.setIfInBounds i true) (setd l o.dst v) L) : DHold P w0 ops Q A bl (fuel + 1) listed l L :=
  d_take ht (opAt ho) (.inl ⟨by rw [wanted_eq]; exact hg, fun w => by rw [fr_eval]; exact h w⟩) k
theorem d_skip (i : Nat) (ho : nthP ops.toList i = some o) (ht : takeB ops listed i = true) (hg : wantL ops.toList l o.guard = false)
    (k : DHold P w0 ops Q A bl fuel (listed.setIfInBounds i true) (setd l o.dst undef) L) : DHold P w0 ops Q A bl (fuel + 1) listed l L :=
  d_take ht (opAt ho) (.inr ⟨by rw [wanted_eq]; exact hg, rfl⟩) k
theorem d_mem (i : Nat) (ho : nthP ops.toList i = some o) (h : Sil P w0 A o l v) (hA : ∀ c ∈ A, c ∈ L) (ht : takeB ops listed i = true) (hb : waitB ops bl listed i = true) (hg : wantL ops.toList l o.guard = true)
    (k : DHold P w0 ops Q A bl fuel (listed.setIfInBounds i true) (setd l o.dst v) L) : DHold P w0 ops Q A bl (fuel + 1) listed l L := fun w hw => by
  simp only [takeB, Bool.and_eq_true] at ht
  refine wpAnyU_mem (opAt ho) (Region.noSelect_spec ht.1) (fun _ _ _ h => h) fuel listed _ w (Region.free_spec (opAt ho) ht.2.1) ?_ (by simpa using ht.2.2) (.inl ⟨by rw [wanted_eq]; exact hg, fun w' ⟨F, hF, hw'⟩ => by rw [fr_eval]; exact h F w' hF hw'⟩) ⟨L, hA, hw⟩ ?_
  · intro j hj hun hne
    have := List.all_eq_true.1 hb j (by simpa using hj)
    simp only [hun, Bool.false_or, Bool.or_eq_true, beq_iff_eq] at this
    exact this.resolve_left hne
  · rw [fr_put]
    exact k w hw
theorem d_op {R : World → Value → World → Prop} (i : Nat) (ho : nthP ops.toList i = some o) (hr : Region.ready .any ops listed = [i]) (hg : wantL ops.toList l o.guard = true) (h : ∀ w, St w0 L w → OpT P o l w (R w))
    (hS : ∀ w, St w0 L w → ∀ v w', R w v w' → bl.contains i = true ∨ Keeps w0 A w')
    (k : ∀ w, St w0 L w → ∀ v w', R w v w' → wpAnyU P ops (noPanic Q) (Keeps w0 A) (fun j => bl.contains j) fuel (listed.setIfInBounds i true) (fr (setd l o.dst v)) w') : DHold P w0 ops Q A bl (fuel + 1) listed l L := fun w hw => by
  refine ⟨fun h0 => (by rw [hr] at h0; cases h0), fun j hj => ?_⟩
  rw [hr] at hj
  simp at hj
  subst hj
  have ho' := opAt ho
  have hg' : Region.wanted o (yielded ops (fr l).tmps) = true := by rw [wanted_eq]; exact hg
  unfold wpOp
  simp only [ho', hg', if_true]
  refine .inl (h w hw _ _ fun v w' hR => ⟨fun hb _ => ?_, k w hw v w' hR⟩)
  rcases hS w hw v w' hR with h1 | h1
  · simp only [h1] at hb; cases hb
  · exact h1
theorem d_loud {ρ : Type} {ok : ρ → Prop} {val : ρ → Value} {D : ρ → List Chunk} (i : Nat) (ho : nthP ops.toList i = some o) (h : Loud P w0 L o l ok val D) (hA : ∀ c ∈ A, c ∈ L) (hr : Region.ready .any ops listed = [i]) (hg : wantL ops.toList l o.guard = true)
    (k : ∀ r, ok r → DHold P w0 ops Q A bl fuel (listed.setIfInBounds i true) (setd l o.dst (val r)) (D r ++ L)) : DHold P w0 ops Q A bl (fuel + 1) listed l L :=
  d_op i ho hr hg (fun w hw => h L w (fun _ h => h) hw) (fun _ _ _ _ ⟨r, _, _, hst⟩ => .inr ⟨_, fun c hc => List.mem_append_right _ (hA c hc), hst⟩) (fun _ _ v w' ⟨r, hr, hv, hst⟩ => by subst hv; exact k r hr w' hst)
theorem d_call (i : Nat) (ho : nthP ops.toList i = some o) (h : Loud P w0 L o l (fun _ : Unit => True) (fun _ => v) (fun _ => [])) (hA : ∀ c ∈ A, c ∈ L) (hr : Region.ready .any ops listed = [i]) (hg : wantL ops.toList l o.guard = true)
    (k : DHold P w0 ops Q A bl fuel (listed.setIfInBounds i true) (setd l o.dst v) L) : DHold P w0 ops Q A bl (fuel + 1) listed l L :=
  d_loud i ho h hA hr hg fun _ _ => k
theorem d_new {val : Nat → Value} {D : Nat → List Chunk} (i : Nat) (ho : nthP ops.toList i = some o) (h : Loud P w0 L o l (fun _ : Nat => True) val D) (hA : ∀ c ∈ A, c ∈ L) (hr : Region.ready .any ops listed = [i]) (hg : wantL ops.toList l o.guard = true)
    (k : ∀ b, DHold P w0 ops Q A bl fuel (listed.setIfInBounds i true) (setd l o.dst (val b)) (D b ++ L)) : DHold P w0 ops Q A bl (fuel + 1) listed l L :=
  d_loud i ho h hA hr hg fun b _ => k b
/-- What turns chunks that are there: A is kept. -/
theorem d_upd {ρ : Type} {ok : ρ → Prop} {val : ρ → Value} {L' : ρ → List Chunk} (i : Nat) (ho : nthP ops.toList i = some o) (h : Upd P w0 L o l ok val L') (hA : ∀ r, ∀ c ∈ A, c ∈ L' r) (hr : Region.ready .any ops listed = [i]) (hg : wantL ops.toList l o.guard = true)
    (k : ∀ r, ok r → DHold P w0 ops Q A bl fuel (listed.setIfInBounds i true) (setd l o.dst (val r)) (L' r)) : DHold P w0 ops Q A bl (fuel + 1) listed l L :=
  d_op i ho hr hg (fun w hw => h w hw) (fun _ _ _ _ ⟨r, _, _, hst⟩ => .inr ⟨_, hA r, hst⟩) (fun _ _ v w' ⟨r, hr, hv, hst⟩ => by subst hv; exact k r hr w' hst)
/-- What turns chunks that are there, and comes behind all that reads. -/
theorem d_last {ρ : Type} {ok : ρ → Prop} {val : ρ → Value} {L' : ρ → List Chunk} (i : Nat) (ho : nthP ops.toList i = some o) (h : Upd P w0 L o l ok val L') (hB : bl.contains i = true) (hr : Region.ready .any ops listed = [i]) (hg : wantL ops.toList l o.guard = true)
    (k : ∀ r, ok r → DHold P w0 ops Q A bl fuel (listed.setIfInBounds i true) (setd l o.dst (val r)) (L' r)) : DHold P w0 ops Q A bl (fuel + 1) listed l L :=
  d_op i ho hr hg (fun w hw => h w hw) (fun _ _ _ _ _ => .inl hB) (fun _ _ v w' ⟨r, hr, hv, hst⟩ => by subst hv; exact k r hr w' hst)
theorem d_done (hr : Region.ready .any ops listed = []) (k : Hold w0 L (Q .normal (fr l))) : DHold P w0 ops Q A bl fuel listed l L := fun w hw => by
  cases fuel with
  | zero => exact ⟨hr, k w hw⟩
  | succ n => exact ⟨fun _ => k w hw, fun j hj => by rw [hr] at hj; cases hj⟩
end
end Go.K

/-
  The shapes that the printed walks use: exits, loops by their slots, ways through a test.
  No conditions: plain lemmas over any program.
-/
namespace Go.K
open Go.RowKit

section
variable {P : Program} {w0 : World} {L L' : List Chunk} {Q : Exit → Act → World → Prop} {l : List Value} {x y : Code} {id id' n t : Nat} {c : Operand} {b : Bool} {ops : Array Oper} {rest : List Oper}
theorem exit_here (k : Hold w0 L (Q .normal (fr l))) : Hold w0 L (Exit.inBlock id Q (.exit id) (fr l)) := fun w hw => by
  unfold Exit.inBlock
  simp only [if_true]
  exact k w hw
theorem exit_out (h : (id' == id) = false) (k : Hold w0 L (Q (.exit id') (fr l))) : Hold w0 L (Exit.inBlock id Q (.exit id') (fr l)) := fun w hw => by
  have : id' ≠ id := by simpa using h
  unfold Exit.inBlock
  simp only [this, if_false]
  exact k w hw
theorem exit_then {K : Act → World → Prop} (k : Hold w0 L (Q (.exit id) (fr l))) : Hold w0 L (Exit.then K Q (.exit id) (fr l)) := k
theorem ret_block (k : Hold w0 L (Q .ret (fr l))) : Hold w0 L (Exit.inBlock id Q .ret (fr l)) := k
theorem ret_then {K : Act → World → Prop} (k : Hold w0 L (Q .ret (fr l))) : Hold w0 L (Exit.then K Q .ret (fr l)) := k
theorem norm_block (k : Hold w0 L (Q .normal (fr l))) : Hold w0 L (Exit.inBlock id Q .normal (fr l)) := k
theorem norm_then {K : Act → World → Prop} (k : Hold w0 L (K (fr l))) : Hold w0 L (Exit.then K Q .normal (fr l)) := k

/-- A slot that holds a bool: go on with the literal. -/
theorem split (t : Nat) (hb : nth l t = .bool b) (kt : b = true → Hold w0 L (wpList P ops Q rest (fr (setn l t (.bool true))))) (kf : b = false → Hold w0 L (wpList P ops Q rest (fr (setn l t (.bool false))))) : Hold w0 L (wpList P ops Q rest (fr l)) := by
  have e : ∀ (l : List Value) t v, nth l t = v → v ≠ undef → setn l t v = l := by
    intro l
    induction l with
    | nil => intro t v h1 h2; rfl
    | cons u l ih =>
      intro t v h1 h2
      cases t with
      | zero => simp [nth] at h1; simp [setn, h1]
      | succ t => simp only [nth] at h1; simp only [setn, ih t v h1 h2]
  have hne : ∀ b, Value.bool b ≠ undef := fun b h => by cases h
  cases b with
  | true => have := kt rfl; rw [e l t _ hb (hne _)] at this; exact this
  | false => have := kf rfl; rw [e l t _ hb (hne _)] at this; exact this
theorem dsplit {A : List Chunk} {bl : List Nat} {fuel : Nat} {listed : Array Bool} (t : Nat) (hb : nth l t = .bool b) (kt : b = true → DHold P w0 ops Q A bl fuel listed (setn l t (.bool true)) L) (kf : b = false → DHold P w0 ops Q A bl fuel listed (setn l t (.bool false)) L) : DHold P w0 ops Q A bl fuel listed l L := by
  have e : ∀ (l : List Value) t v, nth l t = v → v ≠ undef → setn l t v = l := by
    intro l
    induction l with
    | nil => intro t v h1 h2; rfl
    | cons u l ih =>
      intro t v h1 h2
      cases t with
      | zero => simp [nth] at h1; simp [setn, h1]
      | succ t => simp only [nth] at h1; simp only [setn, ih t v h1 h2]
  have hne : ∀ b, Value.bool b ≠ undef := fun b h => by cases h
  cases b with
  | true => have := kt rfl; rw [e l t _ hb (hne _)] at this; exact this
  | false => have := kf rfl; rw [e l t _ hb (hne _)] at this; exact this

/-! ### Loops, by the slots that a round writes -/
def setM : List Value → List Nat → List Value → List Value
  | l, t :: ts, v :: vs => setM (setn l t v) ts vs
  | l, _, _ => l
def setF (f : Nat → Value) : List Value → List Nat → List Value
  | l, t :: ts => setF f (setn l t (f t)) ts
  | l, [] => l
theorem setn_self : ∀ (l : List Value) t, setn l t (nth l t) = l
  | [], _ => rfl
  | _ :: _, 0 => rfl
  | v :: l, t + 1 => by simp only [nth, setn, setn_self l t]
theorem setF_self (l : List Value) : ∀ ts : List Nat, setF (nth l) l ts = l
  | [] => rfl
  | t :: ts => by simp only [setF, setn_self]; exact setF_self l ts
theorem setM_self (l : List Value) : ∀ ts : List Nat, setM l ts (ts.map (nth l)) = l
  | [] => rfl
  | t :: ts => by simp only [List.map_cons, setM, setn_self]; exact setM_self l ts
theorem loopN {a : Act} {w : World} {c : Code} (I : Nat → Act → World → Prop) (h₀ : ∃ n, I n a w)
    (round : ∀ n a w, I n a w → c.wp P (Exit.then (fun a' w' => ∃ m, m < n ∧ I m a' w') Q) a w) : (Code.loop c).wp P Q a w := by
  intro b k cs
  have key : ∀ n a w, I n a w →
      ∃ e a' w', Q e a' w' ∧ Arrives P (lone (b.at a (.code c :: .inLoop c :: k)) cs w) b k cs e a' w' := by
    intro n
    induction n using Nat.strongRecOn with
    | _ n ih =>
      intro a w hI
      obtain ⟨e, a₁, w₁, hq, harr⟩ := round n a w hI b (.inLoop c :: k) cs
      cases e with
      | normal =>
        obtain ⟨m, hlt, hI₁⟩ := hq
        obtain ⟨e₂, a₂, w₂, hq₂, harr₂⟩ := ih m hlt a₁ w₁ hI₁
        exact ⟨e₂, a₂, w₂, hq₂, .of_steps (Steps.trans harr (.one step_inLoop)) harr₂⟩
      | exit id => exact ⟨_, a₁, w₁, hq, .pass (x := .inLoop c) rfl (fun _ _ => .inl (by simp)) harr⟩
      | goto l => exact ⟨_, a₁, w₁, hq, .pass (x := .inLoop c) rfl (fun _ _ => .inl (by simp)) harr⟩
      | ret => exact ⟨_, a₁, w₁, hq, .pass (x := .inLoop c) rfl (fun _ _ => .inl (by simp)) harr⟩
      | panic ch => exact ⟨_, a₁, w₁, hq, .pass (x := .inLoop c) rfl (fun _ _ => .inl (by simp)) harr⟩
      | outgrown => exact ⟨_, a₁, w₁, hq, .pass (x := .inLoop c) rfl (fun _ _ => .inl (by simp)) harr⟩
  obtain ⟨n, hn⟩ := h₀
  obtain ⟨e, a', w', hq, harr⟩ := key n _ w hn
  exact ⟨e, a', w', hq, .of_steps (.one step_loop) harr⟩
def RoundEnd (w0 : World) (J : List Value → List Chunk → Prop) (μ : List Value → Nat) (wi wr : List Nat) (l0 vi : List Value) : Act → World → Prop :=
  fun a w => ∃ vi' vr' L'', a = fr (setF vr' (setM l0 wi vi') wr) ∧ J vi' L'' ∧ μ vi' < μ vi ∧ St w0 L'' w
/-- wi: the slots that J speaks of; wr: the other slots that a round writes. -/
theorem loopW (wi wr : List Nat) (J : List Value → List Chunk → Prop) (μ : List Value → Nat) (h0 : J (wi.map (nth l)) L)
    (round : ∀ vi vr L', J vi L' → Hold w0 L' (x.wp P (Exit.then (RoundEnd w0 J μ wi wr l vi) Q) (fr (setF vr (setM l wi vi) wr)))) :
    Hold w0 L ((Code.loop x).wp P Q (fr l)) := by
  intro w hw
  refine loopN (fun n a w => ∃ vi vr L', a = fr (setF vr (setM l wi vi) wr) ∧ J vi L' ∧ μ vi = n ∧ St w0 L' w) ⟨_, _, nth l, L, by rw [setM_self, setF_self], h0, rfl, hw⟩ ?_
  rintro n a w ⟨vi, vr, L1, rfl, hJ, rfl, hst⟩
  refine wp_mono (round vi vr L1 hJ w hst) (fun e a' w' hq => ?_)
  cases e with
  | normal =>
    obtain ⟨vi', vr', L2, rfl, hJ', hlt, hst'⟩ := hq
    exact ⟨_, hlt, vi', vr', L2, rfl, hJ', rfl, hst'⟩
  | _ => exact hq
theorem round_endW {J : List Value → List Chunk → Prop} {μ : List Value → Nat} {wi wr : List Nat} {vi l0 : List Value} {L'' : List Chunk} (vi' : List Value) (hJ : J vi' L'') (hμ : μ vi' < μ vi) (hs : List.Sublist L'' L) (he : l = setF (nth l) (setM l0 wi vi') wr) :
    Hold w0 L (Exit.then (RoundEnd w0 J μ wi wr l0 vi) Q .normal (fr l)) := fun w hw =>
  ⟨vi', nth l, L'', by rw [← he], hJ, hμ, hw.sub hs⟩
theorem draw_L {lo : List Oper} (bl : List Nat) (hm : P.follows .mixedOrders = true) (k : DHold P w0 lo.toArray Q L bl lo.length (Array.replicate lo.length false) l L) : Hold w0 L ((Code.region id lo.toArray true).wp P Q (fr l)) := draw_lit L bl hm k
theorem draw_drop {lo : List Oper} (m : Nat) (bl : List Nat) (hm : P.follows .mixedOrders = true) (k : DHold P w0 lo.toArray Q (L.drop m) bl lo.length (Array.replicate lo.length false) l L) : Hold w0 L ((Code.region id lo.toArray true).wp P Q (fr l)) := draw_lit (L.drop m) bl hm k
section
variable {E : Type} [Inhabited E] {M A' : List Chunk} {A : Option Addr} {size : Nat} {e : E → List Value} {xs : List E} {d : Option Tmp} {ty : TypeId} {ps : String} {af : Array Edge} {g : Option (Nat × Bool)} {bl : List Nat} {fuel : Nat} {listed : Array Bool}
theorem Sl.ix {ty' et cap : Nat} {x y : Operand} {k : IntKind} {z : Int} (n : Nat) (h : Sl w0 M A size e xs) (ht : sl P ty' = some (et, size)) (hx : ev l x = .slice A xs.length cap) (hy : ev l y = .int k z) (hz : z = (n : Int)) (hn : n < xs.length) :
    ∃ p, Pure P ⟨d, .indexAddr ty' x y, ty, ps, af, g⟩ l (.pointer (some p)) ∧ PtrL w0 M p (e (xs.getD n default)) := by
  subst hz
  exact h.index ht hx hy (by omega) (by omega) (by simp [hn])
theorem seq_ix {ty' et cap : Nat} {x y : Operand} {k : IntKind} {z : Int} (n : Nat) (h : Sl w0 M A size e xs) (ht : sl P ty' = some (et, size)) (hx : ev l x = .slice A xs.length cap) (hy : ev l y = .int k z) (hz : z = (n : Int)) (hn : n < xs.length)
    (hg : wantL ops.toList l g = true) (kk : ∀ p, PtrL w0 M p (e (xs.getD n default)) → Hold w0 L (wpList P ops Q rest (fr (setd l d (.pointer (some p)))))) :
    Hold w0 L (wpList P ops Q (⟨d, .indexAddr ty' x y, ty, ps, af, g⟩ :: rest) (fr l)) := by
  obtain ⟨p, hp, hq⟩ := Sl.ix (d := d) (ty := ty) (ps := ps) (af := af) (g := g) n h ht hx hy hz hn
  exact seq_pure hp hg (kk p hq)
theorem d_ix {ty' et cap : Nat} {x y : Operand} {k : IntKind} {z : Int} (i : Nat) (n : Nat) (ho : nthP ops.toList i = some ⟨d, .indexAddr ty' x y, ty, ps, af, g⟩) (h : Sl w0 M A size e xs) (ht : sl P ty' = some (et, size)) (hx : ev l x = .slice A xs.length cap) (hy : ev l y = .int k z) (hz : z = (n : Int)) (hn : n < xs.length)
    (htk : takeB ops listed i = true) (hg : wantL ops.toList l g = true) (kk : ∀ p, PtrL w0 M p (e (xs.getD n default)) → DHold P w0 ops Q A' bl fuel (listed.setIfInBounds i true) (setd l d (.pointer (some p))) L) :
    DHold P w0 ops Q A' bl (fuel + 1) listed l L := by
  obtain ⟨p, hp, hq⟩ := Sl.ix (d := d) (ty := ty) (ps := ps) (af := af) (g := g) n h ht hx hy hz hn
  exact d_pure i ho hp htk hg (kk p hq)
end
theorem Rd.pass {E : Type} {A : Option Addr} {size : Nat} {e : E → List Value} {xs : List E} {F : List Chunk} {w : World} (h : Rd w0 A size e xs) (hw : St w0 F w) : Rd w A size e xs := fun k x hx => by
  obtain ⟨a, ha, hb, hc⟩ := h k x hx
  exact ⟨a, ha, Nat.lt_of_lt_of_le hb hw.1.size, fun j u hu => (hw.1.cell (p := (a.add (k * size)).add j) (by rw [addr_block, addr_block]; exact hb)).trans (hc j u hu)⟩
end
end Go.K
namespace Go.K
open Go.RowKit
theorem gives_i {w : World} {L : List Chunk} {k : IntKind} {a b : Int} {v : Value} (hv : v = .int k a) (h : a = b) : Hold w L (Gives (.int k b) w (.returned v)) := gives (by rw [hv, h])
theorem gives_b {w : World} {L : List Chunk} {a b : Bool} {v : Value} (hv : v = .bool a) (h : a = b) : Hold w L (Gives (.bool b) w (.returned v)) := gives (by rw [hv, h])
theorem rets_v {ρ : Type} {ok : ρ → Prop} {val : ρ → Value} {D : ρ → List Chunk} {w : World} {L L' : List Chunk} {v : Value} (r : ρ) (hok : ok r) (hv : v = val r) (hD : D r = L') (hs : List.Sublist L' L) : Hold w L (Ret ok val D w (.returned v)) :=
  rets r hok hv (hD ▸ hs)
end Go.K
namespace Go.K
open Go.RowKit
theorem cell_now {w0 w : World} {F : List Chunk} {b i : Nat} {t : TypeId} {cs : List Value} {v : Value} (hw : St w0 F w) (hm : blk b t cs ∈ F) (hv : cs[i]? = some v) : w.cell? ⟨b, i, none⟩ = some v := by
  rw [blk_cell (hw.2.1 _ hm).1]; exact hv
theorem cell_later {w0 w w1 : World} {F : List Chunk} {b i : Nat} {t : TypeId} {cs : List Value} {v : Value} (hw : St w0 F w) (hm : blk b t cs ∈ F) (hv : cs[i]? = some v) (hb : Below w.heap.size w w1) : w1.cell? ⟨b, i, none⟩ = some v := by
  have h := cell_now hw hm hv
  exact (hb.cell (World.block_lt_of_cell? w _ h)).trans h
theorem old_later {w w1 : World} {p : Addr} {v : Value} (h : w.cell? p = some v) (hb : Below w.heap.size w w1) : w1.cell? p = some v := (hb.cell (World.block_lt_of_cell? w _ h)).trans h
theorem St.old {w0 w : World} {F : List Chunk} {p : Addr} {v : Value} (hw : St w0 F w) (h : w0.cell? p = some v) : w.cell? p = some v := (hw.1.cell (World.block_lt_of_cell? w0 _ h)).trans h
theorem PtrL.cell1 {w0 : World} {p : Addr} {v : Value} (h : w0.cell? p = some v) : PtrL w0 [] p [v] := PtrL.old (World.block_lt_of_cell? w0 _ h) (fun j u hu => by
  cases j with
  | zero => simp at hu; subst hu; simpa [Addr.add] using h
  | succ j => simp at hu)
theorem Rd.later {E : Type} {w w1 : World} {A : Option Addr} {size : Nat} {e : E → List Value} {xs : List E} (h : Rd w A size e xs) (hb : Below w.heap.size w w1) : Rd w1 A size e xs := fun k x hx => by
  obtain ⟨a, ha, hbl, hc⟩ := h k x hx
  exact ⟨a, ha, Nat.lt_of_lt_of_le hbl hb.size, fun j u hu => (hb.cell (p := (a.add (k * size)).add j) (by rw [addr_block, addr_block]; exact hbl)).trans (hc j u hu)⟩
/-- A slice literal of the call's own, read by a callee. -/
theorem Rd.lit {E : Type} {w0 w : World} {F : List Chunk} {b : Nat} {t : TypeId} {cs : List Value} {size : Nat} {e : E → List Value} {xs : List E} (hw : St w0 F w) (hm : blk b t cs ∈ F) (hl : ∀ x, (e x).length = size) (h0 : 0 < size) (hcs : cs = xs.flatMap e) : Rd w (some ⟨b, 0, none⟩) size e xs :=
  (Sl.of_blk (w0 := w0) (b := b) (t := t) (cs := cs) hl hcs).rd (F := F) (by intro c hc; simp at hc; subst hc; exact hm) hw (fun x h => by have := hl x; rw [h] at this; simp at this; omega)
@[reducible] def eI (z : Int) : List Value := [.int .i64 z]
@[reducible] def eP (x : Int × Int) : List Value := [.int .i64 x.1, .int .i64 x.2]
@[reducible] def eT (x : Int × Int × Int) : List Value := [.int .i64 x.1, .int .i64 x.2.1, .int .i64 x.2.2]
theorem scope {P : Program} {Q : Exit → Act → World → Prop} {w0 : World} {L : List Chunk} {l : List Value} {x : Code} (k : Hold w0 L (x.wp P (Exit.noGoto Q) (fr l))) : Hold w0 L ((Code.scope x).wp P Q (fr l)) := fun w hw => wp_scope_straight (k w hw)
end Go.K
namespace Go.K
open Go.RowKit
theorem PtrL.pass {w0 w w1 : World} {F : List Chunk} {b : Nat} {t : TypeId} {cs : List Value} (hw : St w0 F w) (hm : blk b t cs ∈ F) (hb : Below w.heap.size w w1) : PtrL w1 [] ⟨b, 0, none⟩ cs := by
  have hlt : b < w.heap.size := (hw.lt hm (k := b) (by unfold blk; rfl))
  refine PtrL.old (Nat.lt_of_lt_of_le hlt hb.size) (fun j u hu => ?_)
  rw [add_lit, Nat.zero_add]
  exact cell_later hw hm hu hb
theorem PtrL.now {w0 w : World} {F : List Chunk} {b : Nat} {t : TypeId} {cs : List Value} (hw : St w0 F w) (hm : blk b t cs ∈ F) : PtrL w [] ⟨b, 0, none⟩ cs := PtrL.pass hw hm (Below.refl _ _)
@[reducible] def tup2 (x : Int × Int) : Value := .tuple #[.int .i64 x.1, .int .i64 x.2]
@[reducible] def tup3 (x : Int × Int × Int) : Value := .tuple #[.int .i64 x.1, .int .i64 x.2.1, .int .i64 x.2.2]
/-- The type is of strings. -/
def sT (P : Program) (t : TypeId) : Bool := match P.underlying t with | some .string => true | _ => false
theorem sT_spec {P : Program} {t : TypeId} (h : sT P t = true) : P.underlying t = some .string := by
  unfold sT at h
  split at h
  · rename_i hk; exact hk
  · cases h
end Go.K
