/-
  Lemmas and walks of functions, joined and with only what the claim needs.
  Conditions stand in each theorem.
-/
import Derived.Test.YtnhhfkgldoeifaaGreatDoorProg
import Derived.Test.YtnhhfkgldoeifaaGreatDoorRows
import Derived.Below
import Derived.Laws.AppendOwn
import Derived.Laws.Rows
import Derived.Laws.Slices
import Derived.Tactics
import Derived.OrdersHeld
import Derived.KernelRfl
import Derived.WalkKit
import Derived.Deep.AppendLies
import Derived.IntWalk
import Derived.Scope
import Derived.WalkSpells
import Derived.DeepKeys
import Derived.Deep.Upon
import Derived.Laws.Small
import Derived.RangeFuncLeaves
import Derived.RangeFuncSeq
import Derived.OrdersIn
import Derived.Sort.LoopGhostIn
import Derived.TacticsIn
import Derived.RangeFuncOwn
import Derived.WideKeyMaps
import Derived.DeepKeys4
import Derived.Carry
import Derived.Laws.CopyRow
import Derived.WalkArith
import Derived.Laws.Closers25b
import Derived.ProofKit
import Derived.OpenShut
import Derived.LaidMore
import Derived.Lay
import Derived.Stop.Joined
import Derived.Lib.LaidTab
import Derived.Shelf.Strconv.Itoa3
import Derived.ChangeOld
import Derived.SizedLaws
import Derived.Deep.Slices
import Derived.Deep.Fields
import Derived.ChangeSame
import Derived.Lib.SmallJoins
import Derived.Laws.MakeOwn
import Derived.WideLaws
import Derived.Shelf.Small.Strs
import Derived.Shelf.Strings.OnBuilder
import Derived.Shelf.Strings.BuilderK
import Derived.Shelf.Strconv.Atoi
import Derived.Shelf.Strings.Prefix
import Derived.Shelf.Strings.Split
import Derived.Shelf.Strings.Search3
import Derived.Shelf.Slices.Turned
import Derived.Lib.FrozenHead
import Derived.Lib.OthersKept
import Derived.Laws.Concat
import Derived.Lib.AtoiErrMem
import Derived.Lib.ItoaNum
import Derived.Lib.Join
import Derived.RecoverIn
import Derived.Lib.IndexBytes
import Derived.Lib.Bytealg
import Derived.SevenTiedAt
import Derived.Test.YtnhhfkgldoeifaaGreatDoorZc
set_option linter.unusedSimpArgs false
set_option linter.unusedVariables false
section
namespace Go.R
open Go.RowKit Go.K
def setP : List Value → List Tmp → List Value → List Value
 | l, p :: ps, v :: vs => setP (setn l p v) ps vs
 | l, _, _ => l
theorem setP_arr : ∀ (l : List Value) (ps : List Tmp) (vs : List Value), (ps.toArray.zip vs.toArray).foldl (fun tmps (t, a) => tmps.setIfInBounds t a) l.toArray = (setP l ps vs).toArray := by
 intro l ps vs
 have h : ∀ (l : List Value) (zs : List (Tmp × Value)), zs.foldl (fun tmps (z : Tmp × Value) => tmps.setIfInBounds z.1 z.2) l.toArray = (zs.foldl (fun l (z : Tmp × Value) => setn l z.1 z.2) l).toArray := by
  intro l zs
  induction zs generalizing l with
  | nil => rfl
  | cons z zs ih => simp only [List.foldl_cons]; rw [← ih]; simp [setn_eq]
 have h2 : ∀ (l : List Value) (ps : List Tmp) (vs : List Value), (ps.zip vs).foldl (fun l (z : Tmp × Value) => setn l z.1 z.2) l = setP l ps vs := by
  intro l ps
  induction ps generalizing l with
  | nil => intro vs; simp [setP]
  | cons p ps ih =>
   intro vs
   cases vs with
   | nil => simp [setP]
   | cons v vs => simp only [List.zip_cons_cons, List.foldl_cons, setP]; exact ih _ _
 rw [← h2, ← h, List.zip_toArray, List.foldl_toArray]
def RoundOK2 {α : Type} (P : Program) (lr : Nat) (enc : α → List Value) (XS : List α) (J Jx : Nat → (Nat → Prop) → World → Prop) : Prop :=
 ∀ k x f w, XS[k]? = some x → J k f w → YieldAt (fen none) 0 P lr (enc x).toArray w fun e w' => ∃ f', Grew f w f' ∧ Kept f w w' ∧ (∀ i, f' i → i < w'.heap.size) ∧ ((e = .returned (.bool true) ∧ J (k + 1) f' w') ∨ (e = .returned (.bool false) ∧ Jx (k + 1) f' w'))
structure BelowX (B b : Nat) (w w' : World) : Prop where
 os : w'.os = w.os
 tape : w'.tape = w.tape
 output : w'.output = w.output
 size : w.heap.size ≤ w'.heap.size
 block : ∀ k, k < B → k ≠ b → w'.heap[k]? = w.heap[k]?
theorem BelowX.of {B b : Nat} {w w' : World} (h : Below B w w') : BelowX B b w w' := ⟨h.os, h.tape, h.output, h.size, fun k hk _ => h.block k hk⟩
theorem BelowX.trans {B b : Nat} {w w' w'' : World} (h : BelowX B b w w') (k : BelowX B b w' w'') : BelowX B b w w'' :=
 ⟨k.os.trans h.os, k.tape.trans h.tape, k.output.trans h.output, Nat.le_trans h.size k.size, fun i hi hn => (k.block i hi hn).trans (h.block i hi hn)⟩
theorem BelowX.mono {B B' b : Nat} {w w' : World} (h : BelowX B b w w') (hB : B' ≤ B) : BelowX B' b w w' := ⟨h.os, h.tape, h.output, h.size, fun k hk hn => h.block k (by omega) hn⟩
theorem BelowX.below {B B' b : Nat} {w w' : World} (h : BelowX B b w w') (hB : B' ≤ B) (hb : B' ≤ b) : Below B' w w' := ⟨h.os, h.tape, h.output, h.size, fun k hk => h.block k (by omega) (by omega)⟩
def StaysX (B b : Nat) (J : Nat → (Nat → Prop) → World → Prop) : Prop := ∀ k f w w', J k f w → BelowX B b w w' → (∀ i, f i → w'.heap[i]? = w.heap[i]?) → J k f w'
theorem StaysX.below {B b : Nat} {J : Nat → (Nat → Prop) → World → Prop} (h : StaysX B b J) {k : Nat} {f : Nat → Prop} {w w' : World} (hJ : J k f w) (hf : ∀ i, f i → i < w.heap.size) (hB : B ≤ w.heap.size) (hb : Below w.heap.size w w') : J k f w' :=
 h k f w w' hJ (.of (hb.mono hB)) (fun i hi => hb.block i (hf i hi))
def orb (f : Nat → Prop) (b : Nat) : Nat → Prop := fun i => f i ∨ i = b
theorem Keep.off {f : Nat → Prop} {w w' : World} {b : Nat} (h : ∀ i, i ≠ b → w'.heap[i]? = w.heap[i]?) : Keep (orb f b) w (orb f b) w' := fun i _ hn => ⟨hn, h i (fun e => hn (.inr e))⟩
def OwnR {E : Type} (f : Nat → Prop) (w : World) (A : Option Addr) (size : Nat) (e : E → List Value) (xs : List E) : Prop :=
 ∀ k x, xs[k]? = some x → ∃ a, A = some a ∧ a.block < w.heap.size ∧ ¬ f a.block ∧ ∀ j u, (e x)[j]? = some u → w.cell? ((a.add (k * size)).add j) = some u
theorem OwnR.rd {E : Type} {f : Nat → Prop} {w : World} {A : Option Addr} {size : Nat} {e : E → List Value} {xs : List E} (h : OwnR f w A size e xs) : Rd w A size e xs := fun k x hx => let ⟨a, h1, h2, _, h3⟩ := h k x hx; ⟨a, h1, h2, h3⟩
theorem OwnR.keep {E : Type} {f f' : Nat → Prop} {w w' : World} {A : Option Addr} {size : Nat} {e : E → List Value} {xs : List E} (h : OwnR f w A size e xs) (hk : Keep f w f' w') : OwnR f' w' A size e xs := fun k x hx => by
 obtain ⟨a, h1, h2, h3, h4⟩ := h k x hx
 obtain ⟨a1, a2⟩ := hk _ h2 h3
 refine ⟨a, h1, lt_of_same h2 a2, a1, fun j u hu => ?_⟩
 rw [← h4 j u hu]
 exact World.cell?_of_block (by rw [addr_block, addr_block]; exact a2)
theorem heap_ptr {w : World} {b : Nat} {t : TypeId} {cs : List Value} (h : w.heap[b]? = some (.cells cs.toArray t (0, 0))) : PtrL w [] ⟨b, 0, none⟩ cs :=
 PtrL.old (lt_of_some h) (fun j u hu => by
  rw [add_lit, Nat.zero_add, blk_cell (t := t) (cs := cs) (show (blk b t cs).holds w from h)]
  exact hu)
def IterX {α : Type} (P : Program) (g : FuncId) (first cap : List Value) (b : Nat) (pre : (Nat → Prop) → World → Prop) (enc : α → List Value) (XS : List α) : Prop :=
 ∀ (lr B : Nat) (J Jx : Nat → (Nat → Prop) → World → Prop) (f : Nat → Prop) (w : World), B ≤ w.heap.size → b < w.heap.size → StaysX B b J → StaysX B b Jx → (∀ k f w, J k f w → B ≤ w.heap.size) → (∀ k f w, Jx k f w → B ≤ w.heap.size) → (∀ i, f i → i < w.heap.size) → ¬ f b → RoundOK2 P lr enc XS J Jx → J 0 f w → pre f w →
  Calls P g (first ++ [Value.func (.yield lr) #[] #[]] ++ cap).toArray w fun e w' => (∃ v, e = .returned v) ∧ ((∃ f', J XS.length f' w') ∨ (∃ k f', k ≤ XS.length ∧ Jx k f' w'))
theorem rangeX {α : Type} {P : Program} {w0 : World} {L : List Chunk} {Q : Exit → Act → World → Prop} {l : List Value} {g : Operand} {ps : List Tmp} {assign body : Code} {gf : FuncId} {first cap : List Value} {pre : (Nat → Prop) → World → Prop} {enc : α → List Value} {XS : List α} {n : Nat} {D : List Deferred}
  (hg : ev l g = .func (.func gf) first.toArray cap.toArray) (hcal : callable P gf = true) (Lm F : List Chunk) {bx : Nat} {tx : TypeId} {cx : List Value} (hsp : ∀ w, St w0 L w → St w0 (Lm ++ (F ++ [blk bx tx cx])) w) (hF : ∀ c ∈ F, ∃ b t cs, c = blk b t cs) (hps : ∀ x, (enc x).length = ps.length) (hit : IterX P gf first cap bx pre enc XS) (hpre : ∀ f w, Free w0 F (orb f bx) w → w.heap[bx]? = some (.cells cx.toArray tx (0, 0)) → pre f w)
  (JL : Nat → List Chunk → Prop) (JX : Code → List Chunk → Prop) (h0 : JL 0 Lm)
  (round : ∀ k x L' lr E, XS[k]? = some x → (∀ b t cs, blk b t cs ∈ F → PtrL w0 [E] ⟨b, 0, none⟩ cs) → JL k L' → Hold w0 (L' ++ [E]) (assign.wpIn (fen (some lr)) 0 P (Exit.then (BodyC P w0 F JL JX k lr body E) (fun _ _ _ => False)) (frd [] (setP l ps (enc x)))))
  (done : ∀ b L', JL XS.length L' → Hold w0 (L' ++ (F ++ [dfr b])) (Q .normal (frd (mark b :: D) l)))
  (stop : ∀ b c L', JX c L' → Hold w0 (L' ++ (F ++ [dfr b])) (c.wpIn (fen none) n P Q (frd (mark b :: D) l))) :
  Hold w0 L ((Code.rangeFunc g ps.toArray assign body).wpIn (fen none) n P Q (frd D l)) := by
 intro w hw0
 have hwX := hsp w hw0
 have hw : St w0 (Lm ++ F) w := hwX.sub (List.Sublist.append (List.Sublist.refl _) (List.sublist_append_left _ _))
 have hbx0 : w0.heap.size ≤ bx := (hwX.2.1 (blk bx tx cx) (by simp)).2 bx rfl
 have hbxw : bx < w.heap.size := hwX.lt (c := blk bx tx cx) (by simp) rfl
 have hpX := List.pairwise_append.1 hwX.2.2
 have hpXF := List.pairwise_append.1 hpX.2.1
 have hbxL : ∀ c ∈ Lm, ¬ c.foot bx := fun c hc h => hpX.2.2 c hc (blk bx tx cx) (by simp) bx h rfl
 have hbxF : ∀ c ∈ F, ¬ c.foot bx := fun c hc h => hpXF.2.2 c hc (blk bx tx cx) (by simp) bx h rfl
 refine wpIn_rangeFunc ?_
 intro fn hfn
 obtain ⟨rc, hrc⟩ : ∃ rc : LoopState → Option Code → Loop, rc = fun st pe => { state := st, pending := pe, fn, tmps := l.toArray, params := ps.toArray, assign, body, defers := w.heap.size } := ⟨_, rfl⟩
 obtain ⟨W1, hW1⟩ : ∃ W1, (w.alloc (.deferred (some []))).alloc (.loop (rc .ready none)) = W1 := ⟨_, rfl⟩
 obtain ⟨rd, hrd⟩ : ∃ rd : Chunk, rd = both (obj (w.heap.size + 1) (.loop (rc .ready none))) (dfr w.heap.size) := ⟨_, rfl⟩
 have hst1' : St w0 ((Lm ++ F) ++ [rd]) W1 := by
  have hb1 : Below w.heap.size w W1 := by
   rw [← hW1]; exact ((Below.refl _ w).alloc (Nat.le_refl _) _).alloc (by simp) _
  refine st_snoc (st_below hw hb1) ?_ (fun k hk => ?_) (fun c hc k hk hk' => ?_)
  ·subst hrd
   refine ⟨?_, ?_⟩
   ·show W1.heap[w.heap.size + 1]? = _
    rw [← hW1]; have := World.alloc_heap_new (w.alloc (.deferred (some []))) (.loop (rc .ready none)); rwa [World.size_alloc] at this
   ·show W1.heap[w.heap.size]? = _
    rw [← hW1]; exact (Below.heap_alloc _ _ _ (by simp)).trans (World.alloc_heap_new w _)
  ·subst hrd
   have := hw.1.size
   rcases hk with hk | hk
   ·have : k = w.heap.size + 1 := hk
    omega
   ·have : k = w.heap.size := hk
    omega
  ·subst hrd
   have := hw.lt hc hk
   rcases hk' with hk' | hk'
   ·have : k = w.heap.size + 1 := hk'
    omega
   ·have : k = w.heap.size := hk'
    omega
 have hst1 : St w0 (Lm ++ (F ++ [rd])) W1 := by rw [← List.append_assoc]; exact hst1'
 have hsub : ∀ {L' : List Chunk} {x : Chunk} {W : World}, St w0 (L' ++ (F ++ [x])) W → St w0 (L' ++ [x]) W := fun h => h.sub (List.Sublist.append (List.Sublist.refl _) (List.sublist_append_right _ _))
 have hfree : ∀ {L' : List Chunk} {W : World}, St w0 (L' ++ (F ++ [rd])) W → Free w0 F (foots (L' ++ [rd])) W := fun {L'} {W} h => by
  have hp := List.pairwise_append.1 h.2.2
  have hpF := List.pairwise_append.1 hp.2.1
  refine ⟨h.sub ((List.sublist_append_left F [rd]).trans (List.sublist_append_right _ _)), fun c hc i hi => ?_, fun i hi => ?_⟩
  ·rintro ⟨d, hd, hdi⟩
   rcases List.mem_append.1 hd with hd | hd
   ·exact hp.2.2 d hd c (by simp [hc]) i hdi hi
   ·exact hpF.2.2 c hc d hd i hi hdi
  ·rintro ⟨d, hd, hdi⟩
   have := ((hsub h).2.1 d hd).2 i hdi
   omega
 have hb1 : Below w.heap.size w W1 := by
  rw [← hW1]; exact ((Below.refl _ w).alloc (Nat.le_refl _) _).alloc (by simp) _
 have hsz1 : W1.heap.size = w.heap.size + 2 := by rw [← hW1]; simp
 have hbx1 : bx < W1.heap.size := Nat.lt_of_lt_of_le hbxw hb1.size
 have hbxf : ¬ foots (Lm ++ [rd]) bx := by
  rintro ⟨d, hd, hdi⟩
  rcases List.mem_append.1 hd with hd | hd
  ·exact hbxL d hd hdi
  ·simp at hd; subst hd; subst hrd
   rcases hdi with hdi | hdi
   ·have : bx = w.heap.size + 1 := hdi
    omega
   ·have : bx = w.heap.size := hdi
    omega
 have hfreeX : Free w0 F (orb (foots (Lm ++ [rd])) bx) W1 := by
  refine ⟨(hfree hst1).1, fun c hc i hi h => ?_, fun i hi h => ?_⟩
  ·rcases h with h | h
   ·exact (hfree hst1).2.1 c hc i hi h
   ·exact hbxF c hc (h ▸ hi)
  ·rcases h with h | h
   ·exact (hfree hst1).2.2 i hi h
   ·omega
 have hFW : ∀ c ∈ F, ∀ i, c.foot i → i < W1.heap.size := fun c hc i hi => hst1.lt (c := c) (by simp [hc]) hi
 refine ⟨w.heap.size + 1, [mark w.heap.size], W1, { target := .fn (.func gf) cap.toArray, args := first.toArray ++ #[Value.func (.yield (w.heap.size + 1)) #[] #[]] }, W1, gf,
  (first ++ [Value.func (.yield (w.heap.size + 1)) #[] #[]] ++ cap).toArray, W1, ?_, ?_, fun _ _ => trivial, ?_, fun h => (by cases h), ?_⟩
 ·rw [← hW1, hrc]; exact run_enterLoop_outer _ _ _ _ _
 ·have he : (frd D l).eval g = .func (.func gf) first.toArray cap.toArray := by rw [frd_eval]; exact hg
  simp only [resolve, he]
  simp [go_sem]
 ·simp [invoke, go_sem, run_call hcal]
 ·refine calls_fen ((hit (w.heap.size + 1) W1.heap.size
   (fun k f W => ∃ L', JL k L' ∧ St w0 (L' ++ (F ++ [rd])) W ∧ f = foots (L' ++ [rd]) ∧ ¬ f bx ∧ bx < W.heap.size)
   (fun k f W => ∃ c L', JX c L' ∧ St w0 (L' ++ (F ++ [both (obj (w.heap.size + 1) (.loop (rc .done (some c)))) (dfr w.heap.size)])) W ∧ f = foots (L' ++ [rd]) ∧ ¬ f bx ∧ bx < W.heap.size)
   (foots (Lm ++ [rd])) W1 (Nat.le_refl _) hbx1 ?_ ?_ ?_ ?_ ?_ hbxf ?_ ⟨Lm, h0, hst1, rfl, hbxf, hbx1⟩ (hpre _ _ hfreeX ((hwX.keep (hb1.mono hw.1.size) (fun c hc k hk => hb1.block k (hwX.lt hc hk))).2.1 (blk bx tx cx) (by simp)).1)).mono ?_)
  ·rintro k f W W' ⟨L', h1, h2, rfl, hn, hlt⟩ hb hs
   refine ⟨L', h1, h2.keep (hb.below hst1.1.size hbx0) (fun c hc i hi => ?_), rfl, hn, Nat.lt_of_lt_of_le hlt hb.size⟩
   rcases List.mem_append.1 hc with hc | hc
   ·exact hs i ⟨c, by simp [hc], hi⟩
   rcases List.mem_append.1 hc with hc | hc
   ·exact hb.block i (hFW c hc i hi) (fun e => hbxF c hc (e ▸ hi))
   ·exact hs i ⟨c, by simp [List.mem_singleton.1 hc], hi⟩
  ·rintro k f W W' ⟨c0, L', h1, h2, rfl, hn, hlt⟩ hb hs
   refine ⟨c0, L', h1, h2.keep (hb.below hst1.1.size hbx0) (fun c hc i hi => ?_), rfl, hn, Nat.lt_of_lt_of_le hlt hb.size⟩
   rcases List.mem_append.1 hc with hc | hc
   ·exact hs i ⟨c, by simp [hc], hi⟩
   rcases List.mem_append.1 hc with hc | hc
   ·exact hb.block i (hFW c hc i hi) (fun e => hbxF c hc (e ▸ hi))
   ·refine hs i ⟨rd, by simp, ?_⟩
    have := List.mem_singleton.1 hc
    subst this; subst hrd; exact hi
  ·rintro k f W ⟨L', h1, h2, rfl, hn, hlt⟩
   have h3 := h2.lt (c := rd) (k := w.heap.size + 1) (by simp) (by subst hrd; exact .inl rfl)
   rw [hsz1]; omega
  ·rintro k f W ⟨c0, L', h1, h2, rfl, hn, hlt⟩
   have h3 := h2.lt (c := both (obj (w.heap.size + 1) (.loop (rc .done (some c0)))) (dfr w.heap.size)) (k := w.heap.size + 1) (by simp) (.inl rfl)
   rw [hsz1]; omega
  ·rintro i ⟨c, hc, hi⟩
   exact (hsub hst1).lt hc hi
  ·-- one round
   rintro k x f W hx ⟨L', hJ, hstF, rfl, hbn, hblt⟩
   have hst := hsub hstF
   have hl : W.heap[w.heap.size + 1]? = some (.loop (rc .ready none)) := by
    have := (st_front hst).2.1
    subst hrd; exact this.1
   have hy := run_yield (P := P) (args := (enc x).toArray) hl (by rw [hrc]; simp [hps])
   have hy' : (Instr.yield (w.heap.size + 1) (enc x).toArray).run P W = .ok (.round (w.heap.size + 1) fn (setP l ps (enc x)).toArray assign body) W := by
    rw [hy, hrc]
    congr 2
    exact setP_arr l ps (enc x)
   refine ⟨fn, _, assign, body, hy', roundIn_of_wpIn trivial ?_⟩
   obtain ⟨ot, hot⟩ : ∃ ot : Chunk, ot = oth w0.heap.size (L' ++ [rd]) W := ⟨_, rfl⟩
   have hf := st_front hst
   have hE1 : St w0 (L' ++ [both rd ot]) W := by subst hot; exact fix_in hstF
   refine wide_seq (r := some (w.heap.size + 1)) (round k x L' (w.heap.size + 1) (both rd ot) hx (fun b t cs hm => by subst hot; exact fix_ptr hstF hm) hJ W hE1) ?_
   rintro e a1 w1 hp
   cases e with
   | normal =>
    obtain ⟨l2, L2, rfl, hst2, hbody⟩ := hp
    have hf2 := st_front hst2
    have hl2 : w1.heap[w.heap.size + 1]? = some (.loop (rc .ready none)) := by
     have h1 := hf2.2.1.1
     subst hrd; exact h1.1
    have hd2 : w1.heap[w.heap.size]? = some (.deferred (some [])) := by
     have h1 := hf2.2.1.1
     subst hrd; exact h1.2
    refine ⟨_, run_beginRound hl2 (by rw [hrc]), ?_⟩
    obtain ⟨rb, hrb⟩ : ∃ rb : Chunk, rb = both (obj (w.heap.size + 1) (.loop (rc .busy none))) (dfr w.heap.size) := ⟨_, rfl⟩
    have hlt : ∀ {W : World} {o : Obj}, W.heap[w.heap.size + 1]? = some o → w.heap.size + 1 < W.heap.size := fun h => lt_of_some h
    have hfoot : ∀ k, rb.foot k ↔ rd.foot k := fun k => by subst hrb; subst hrd; exact Iff.rfl
    have hrdl : rd.foot (w.heap.size + 1) := by subst hrd; exact .inl rfl
    have hrdd : rd.foot w.heap.size := by subst hrd; exact .inr rfl
    have hotn : ∀ {W' : World} {o : Obj}, ot.holds W' → ot.holds (W'.putObj (w.heap.size + 1) o) := fun h => by
     refine ot.loc _ _ h (fun k hk => World.putObj_heap_other (fun e => ?_))
     subst hot; subst e
     exact hk.2.2 ⟨rd, by simp, hrdl⟩
    have hst3 : St w0 (L2 ++ [both rb ot]) (w1.putObj (w.heap.size + 1) (.loop (rc .busy none))) := by
     refine st_put hst2 (.inl hrdl) ⟨?_, hotn hf2.2.1.2⟩ (fun k hk => ?_)
     ·subst hrb
      exact ⟨World.putObj_heap_same (hlt hl2), (World.putObj_heap_other (by omega)).trans hd2⟩
     ·rcases hk with hk | hk
      ·exact .inl ((hfoot k).1 hk)
      ·exact .inr hk
    have e0 : ({ rc .ready none with state := .busy } : Loop) = rc .busy none := by rw [hrc]
    rw [e0]
    refine wide_seq (r := some (w.heap.size + 1)) (hbody (both rb ot) (fun b t cs hm => by subst hot; exact fix_ptr hstF hm) _ hst3) ?_
    -- what a round's end owes
    have fin : ∀ (jump : Option Code) (w3 : World) (L3 : List Chunk), St w0 (L3 ++ [both rb ot]) w3 →
      (Instr.endRound (w.heap.size + 1) jump).run P w3 = .ok (.bool jump.isNone) (w3.putObj (w.heap.size + 1) (.loop (rc (if jump.isNone then .ready else .done) jump))) ∧
      St w0 (L3 ++ (F ++ [both (obj (w.heap.size + 1) (.loop (rc (if jump.isNone then .ready else .done) jump))) (dfr w.heap.size)])) (w3.putObj (w.heap.size + 1) (.loop (rc (if jump.isNone then .ready else .done) jump))) ∧
      Grew (foots (L' ++ [rd])) W (foots (L3 ++ [rd])) ∧ Kept (foots (L' ++ [rd])) W (w3.putObj (w.heap.size + 1) (.loop (rc (if jump.isNone then .ready else .done) jump))) ∧
      ∀ i, foots (L3 ++ [rd]) i → i < (w3.putObj (w.heap.size + 1) (.loop (rc (if jump.isNone then .ready else .done) jump))).heap.size := by
     intro jump w3 L3 hst4
     have hf4 := st_front hst4
     have h1 := hf4.2.1.1
     have hl4 : w3.heap[w.heap.size + 1]? = some (.loop (rc .busy none)) := by subst hrb; exact h1.1
     have hd4 : w3.heap[w.heap.size]? = some (.deferred (some [])) := by subst hrb; exact h1.2
     have hst5 : St w0 ((L3 ++ F) ++ [rb]) w3 := by
      rw [List.append_assoc]; subst hot; exact fix_expand hF hfoot hstF hst4
     have hs4 : St w0 (L3 ++ (F ++ [both (obj (w.heap.size + 1) (.loop (rc (if jump.isNone then .ready else .done) jump))) (dfr w.heap.size)])) (w3.putObj (w.heap.size + 1) (.loop (rc (if jump.isNone then .ready else .done) jump))) := by
      rw [← List.append_assoc]
      refine st_put hst5 ((hfoot _).2 hrdl) ⟨World.putObj_heap_same (hlt hl4), (World.putObj_heap_other (by omega)).trans hd4⟩ (fun k hk => (hfoot k).2 ?_)
      subst hrd; exact hk
     refine ⟨?_, hs4, ?_, ?_, ?_⟩
     ·have := run_endRound (P := P) jump hl4
      rw [this, hrc]
     ·rintro i ⟨c, hc, hi⟩
      by_cases hfi : foots (L' ++ [rd]) i
      ·exact .inl hfi
      ·refine .inr (Nat.le_of_not_lt fun hlt' => ?_)
       rcases List.mem_append.1 hc with hc | hc
       ·refine hf4.2.2.2 c hc i hi (.inr ?_)
        subst hot
        exact ⟨(hst4.2.1 c (by simp [hc])).2 i hi, hlt', hfi⟩
       ·simp at hc; subst hc; exact hfi ⟨c, by simp, hi⟩
     ·intro i hi hni
      have hne : i ≠ w.heap.size + 1 := fun e => hni ⟨rd, by simp, by subst e; exact hrdl⟩
      rw [World.putObj_heap_other (by omega)]
      rcases Nat.lt_or_ge i w0.heap.size with h2 | h2
      ·rw [hst4.1.block i h2, hst.1.block i h2]
      ·have h3 := hf4.2.1.2
       subst hot
       exact h3 i h2 hi hni
     ·rintro i ⟨c, hc, hi⟩
      have hs4' := hsub hs4
      rcases List.mem_append.1 hc with hc | hc
      ·exact hs4'.lt (c := c) (by simp [hc]) hi
      ·simp at hc
       refine hs4'.lt (c := both (obj (w.heap.size + 1) (.loop (rc (if jump.isNone then .ready else .done) jump))) (dfr w.heap.size)) (by simp) ?_
       subst hc; subst hrd; exact hi
    rintro e a3 w3 hq
    cases e with
    | normal =>
     obtain ⟨L3, hJ3, hst4⟩ := hq
     obtain ⟨hr, hs, hgr, hk, hlt3⟩ := fin none w3 L3 hst4
     exact ⟨_, _, hr, _, hgr, hk, hlt3, .inl ⟨rfl, L3, hJ3, by subst hrd; exact hs, rfl, fun h => (hgr _ h).elim hbn (fun h => by omega), lt_of_same hblt (hk bx hblt hbn)⟩⟩
    | ret =>
     obtain ⟨L3, hJ3, hst4⟩ := hq
     obtain ⟨hr, hs, hgr, hk, hlt3⟩ := fin (some .ret) w3 L3 hst4
     exact ⟨_, _, hr, _, hgr, hk, hlt3, .inr ⟨rfl, _, L3, hJ3, hs, rfl, fun h => (hgr _ h).elim hbn (fun h => by omega), lt_of_same hblt (hk bx hblt hbn)⟩⟩
    | exit id =>
     obtain ⟨L3, hJ3, hst4⟩ := hq
     obtain ⟨hr, hs, hgr, hk, hlt3⟩ := fin (some (.exit id)) w3 L3 hst4
     exact ⟨_, _, hr, _, hgr, hk, hlt3, .inr ⟨rfl, _, L3, hJ3, hs, rfl, fun h => (hgr _ h).elim hbn (fun h => by omega), lt_of_same hblt (hk bx hblt hbn)⟩⟩
    | _ => exact (show False from hq).elim
   | _ => exact (show False from hp).elim
  ·-- the function has returned
   rintro e w3 ⟨⟨v, rfl⟩, hh⟩
   have hdef : ({ frd D l with defers := [mark w.heap.size] ++ (frd D l).defers } : Act) = frd (mark w.heap.size :: D) l := rfl
   rw [hdef]
   rcases hh with ⟨f', L', hJ, hstF, _⟩ | ⟨k, f', _, c, L', hJ, hstF, _⟩
   ·have hf := st_front (hsub hstF)
    have hl3 : w3.heap[w.heap.size + 1]? = some (.loop (rc .ready none)) := by
     have h1 := hf.2.1
     subst hrd; exact h1.1
    have hd3 : w3.heap[w.heap.size]? = some (.deferred (some [])) := by
     have h1 := hf.2.1
     subst hrd; exact h1.2
    have hend := run_endLoop (P := P) hl3 (by rw [hrc]; simp)
    refine ⟨_, _, hend, ?_⟩
    have e1 : (rc .ready none).pending = none := by rw [hrc]
    rw [e1]
    refine done _ L' hJ _ ?_
    rw [← List.append_assoc] at hstF ⊢
    exact st_put hstF (by subst hrd; exact .inl rfl) ((World.putObj_heap_other (by omega)).trans hd3) (fun k hk => by subst hrd; exact .inr hk)
   ·have hf := st_front (hsub hstF)
    have hl3 : w3.heap[w.heap.size + 1]? = some (.loop (rc .done (some c))) := hf.2.1.1
    have hd3 : w3.heap[w.heap.size]? = some (.deferred (some [])) := hf.2.1.2
    have hend := run_endLoop (P := P) hl3 (by rw [hrc]; simp)
    refine ⟨_, _, hend, ?_⟩
    have e1 : (rc .done (some c)).pending = some c := by rw [hrc]
    rw [e1]
    refine stop _ c L' hJ _ ?_
    rw [← List.append_assoc] at hstF ⊢
    exact st_put hstF (.inl rfl) ((World.putObj_heap_other (by omega)).trans hd3) (fun k hk => .inr hk)
theorem yield_steps {α : Type} {P : Program} {lr : Nat} {enc : α → List Value} {XS : List α} {J Jx : Nat → (Nat → Prop) → World → Prop} (hR : RoundOK2 P lr enc XS J Jx) {k : Nat} {x : α} {f : Nat → Prop} {w : World} (hx : XS[k]? = some x) (hJ : J k f w) :
  YieldAt (fen none) 0 P lr (enc x).toArray w (fun e w' => ∃ b, e = .returned (.bool b) ∧ Step2 XS J Jx k f w b w') := by
 obtain ⟨fn, tmps, assign, body, h1, h2⟩ := hR k x f w hx hJ
 refine ⟨fn, tmps, assign, body, h1, h2.mono ?_⟩
 rintro e w' ⟨f', hg, hk, hl, h⟩
 rcases h with ⟨he, h⟩ | ⟨he, h⟩
 ·exact ⟨true, he, .inl ⟨rfl, f', h, Keep.of hg hk, hg, hl⟩⟩
 ·exact ⟨false, he, .inr ⟨rfl, k + 1, f', (List.getElem?_eq_some_iff.1 hx).1, h, Keep.of hg hk, hg, hl⟩⟩
def RoundEndN (Inv : Nat → List Value → World → Prop) (m : Nat) (wi wr : List Nat) (l : List Value) : Act → World → Prop :=
 fun a w' => ∃ m' vi' vr', a = frd [] (setF vr' (setM l wi vi') wr) ∧ Inv m' vi' w' ∧ m' < m
theorem loopN {P : Program} {w0 : World} {L : List Chunk} {Q : Exit → Act → World → Prop} {l : List Value} {x : Code} {n : Nat} (wi wr : List Nat) (Inv : Nat → List Value → World → Prop) (n0 : Nat) (h0 : ∀ w, St w0 L w → Inv n0 (wi.map (nth l)) w)
  (round : ∀ m vi vr W, Inv m vi W → Hold W [] (x.wpIn (fen none) n P (Exit.then (RoundEndN Inv m wi wr l) Q) (frd [] (setF vr (setM l wi vi) wr)))) :
  Hold w0 L ((Code.loop x).wpIn (fen none) n P Q (frd [] l)) := by
 intro w hw
 refine wpIn_loop_ghost (fun n a w => ∃ vi vr, a = frd [] (setF vr (setM l wi vi) wr) ∧ Inv n vi w) _ ⟨_, nth l, by rw [setM_self, setF_self], h0 w hw⟩ ?_
 rintro n a w ⟨vi, vr, rfl, hJ⟩
 refine wpIn_mono (round n vi vr w hJ w (St.start w)) (fun e a' w' hq => ?_)
 cases e with
 | normal =>
  obtain ⟨m', vi', vr', rfl, hJ', hlt⟩ := hq
  exact ⟨_, hlt, vi', vr', rfl, hJ'⟩
 | _ => exact hq
theorem roundN {w0 : World} {L : List Chunk} {Q : Exit → Act → World → Prop} {Inv : Nat → List Value → World → Prop} {wi wr : List Nat} {l0 l : List Value} {m : Nat} (m' : Nat) (vi' : List Value) (hJ : ∀ w, St w0 L w → Inv m' vi' w) (hμ : m' < m) (he : l = setF (nth l) (setM l0 wi vi') wr) :
  Hold w0 L (Exit.then (RoundEndN Inv m wi wr l0) Q .normal (frd [] l)) := fun w hw => ⟨m', vi', nth l, by rw [← he], hJ w hw, hμ⟩
section
variable {r : Option Nat} {n : Nat} {P : Program} {w0 : World} {L : List Chunk} {D : List Deferred} {ops : Array Oper} {Q : Exit → Act → World → Prop} {rest : List Oper} {l : List Value} {o : Oper} {v : Value} {id : Nat}
theorem lseq_yield2 {d : Option Tmp} {ty : TypeId} {ps : String} {af : Array Edge} {g : Option (Nat × Bool)} {x : Operand} {ys : List Operand} {lr : Nat} {us : List Value} {ts : Array TypeId} {post : World → Bool → World → Prop} (hx : ev l x = .func (.yield lr) #[] #[]) (hy : ys.map (ev l) = us)
  (hg : wantL ops.toList l g = true) (hc : ∀ w, St w0 L w → YieldAt (fen none) 0 P lr us.toArray w (fun e w' => ∃ b, e = .returned (.bool b) ∧ post w b w'))
  (k : ∀ w, St w0 L w → ∀ b w', post w b w' → Hold w' [] (wpListIn (fen r) n P ops Q rest (frd D (setd l d (.bool b))))) : Hold w0 L (wpListIn (fen r) n P ops Q (⟨d, .call { callee := .value x, args := ys.toArray, argTypes := ts }, ty, ps, af, g⟩ :: rest) (frd D l)) := by
 intro w hw
 unfold wpListIn
 have hyl : Region.wanted ⟨d, .call { callee := .value x, args := ys.toArray, argTypes := ts }, ty, ps, af, g⟩ (yielded ops (frd D l).tmps) = wantL ops.toList l g := wanted_eq ops l _
 rw [if_pos (by rw [hyl]; exact hg)]
 refine ⟨fun _ _ => trivial, ?_⟩
 have hs : (⟨d, .call { callee := .value x, args := ys.toArray, argTypes := ts }, ty, ps, af, g⟩ : Oper).semAt (fen r).round (frd D l).eval = execOp (ev l) ⟨d, .call { callee := .value x, args := ys.toArray, argTypes := ts }, ty, ps, af, g⟩ := by
  rw [frd_eval]
  cases r with
  | none => rfl
  | some l' => exact Oper.semAt_some l' (ev l) _ (fun c hc => by cases hc)
 obtain ⟨fn, tmps, assign, body, hrun, hround⟩ := hc w hw
 rw [hs]
 have hexec : (execOp (ev l) ⟨d, .call { callee := .value x, args := ys.toArray, argTypes := ts }, ty, ps, af, g⟩).run P w = .ok (.round lr fn tmps assign body) w := by
  have e2 : ys.toArray.map (ev l) = us.toArray := by rw [← hy]; simp
  simp only [execOp, resolve, hx, e2, Deferred.ofValue, Sem.run_bind, Sem.run_pure, Result.andThen_ok, invoke]
  simp [hrun]
 rw [hexec]
 refine ⟨fun h => (by cases h), (round_fen hround).mono ?_⟩
 rintro e w' ⟨b, rfl, h⟩
 show wpListIn (fen r) n P ops Q rest ((frd D l).put d (.bool b)) w'
 rw [frd_put]
 exact k w hw b w' h w' (St.start w')
end
section
variable {P : Program} {w0 : World} {L : List Chunk} {ops : Array Oper} {Q : Exit → Act → World → Prop} {rest : List Oper} {l : List Value} {d : Option Tmp} {ty : TypeId} {ps : String} {af : Array Edge} {g : Option (Nat × Bool)}
theorem store_old {w : World} {t n b i : Nat} {e : TypeId} {x y : Operand} {cs : List Value} (hn : sz P t = some n) (hx : ev l x = .pointer (some ⟨b, i, none⟩)) (hlen : (cl (ev l y)).length = n) (hfit : i + n ≤ cs.length)
  (h1 : (cl (ev l y)).all Value.oneCell' = true) (hh : w.heap[b]? = some (.cells cs.toArray e (0, 0))) :
  OpT P ⟨d, .store t x y, ty, ps, af, g⟩ l w (fun _ w' => w' = w.setRow b (over cs i (cl (ev l y))).toArray) := by
 have hst := run_storeCells_at P b i e (cl (ev l y)) 0 cs.toArray w hh (by simp; omega) (by simpa using h1)
 simp only [Nat.add_zero] at hst
 rw [← over_eq _ _ _ (by omega)] at hst
 refine OpT.of_skip (w' := w.setRow b (over cs i (cl (ev l y))).toArray) ?_ rfl
 unfold sz at hn
 cases hi : P.info? t with
 | none => simp [hi] at hn
 | some q =>
  have hs : q.size = n := by simpa [hi] using hn
  have hcs : (ev l y).cells.size = n := by rw [← hlen, ← cells_cl]; simp
  simp [execOp, hx, Instr.storeAt, Instr.sureAddr, storeVar, sizeOf, typeInfo, hi, hs, hcs, cells_cl, hst]
end
end Go.R

namespace Go.K
open Go.RowKit
section
variable {P : Program} {w0 : World} {L L' : List Chunk} {l : List Value} {d : Option Tmp} {ty : TypeId} {ps : String} {af : Array Edge} {g : Option (Nat × Bool)}
theorem row_shrink {A : Option Addr} {n m c e size : Nat} {xs : List Value} {G : World → Prop} (hr : Rep (row (.slice A n c) e size n xs) (row (.slice A m c) e size m (xs.take (m * size))) L L') (hm : m ≤ n) (k : Hold w0 L' G) : Hold w0 L G := fun w hw => by
 have ho : w.ownsRow 0 e size (.slice A n c) n xs := (hw.2.1 _ hr.mem).1
 refine k w (hw.upd (row := none) hr ⟨rfl, rfl, rfl, Nat.le_refl _, fun _ _ _ => rfl⟩ (fun _ h => by cases h) ?_ (fun q hq => .inl ?_))
 ·obtain ⟨hl, hd⟩ := ho
  have hml : m * size ≤ n * size := Nat.mul_le_mul_right _ hm
  refine ⟨by rw [List.length_take]; omega, ?_⟩
  rcases hd with ⟨hv, h0⟩ | ⟨gg, cap, cur, hv, hb, hh, h2, h3, h4, h5⟩
  ·injection hv with e1 _ e3
   subst e1; subst e3
   exact .inl ⟨by rw [show m = 0 by omega], by omega⟩
  ·injection hv with e1 _ e3
   subst e1; subst e3
   refine .inr ⟨gg, c, cur, rfl, hb, hh, by omega, h3, h4, ?_⟩
   rw [← h5, List.take_take, Nat.min_eq_left hml]
 ·cases A with
  | none => simp [row, Value.ownBlock] at hq
  | some a => exact hq
theorem row_pop {A : Option Addr} {n c e : Nat} {xs : List Value} {v : Value} {G : World → Prop} (hr : Rep (row (.slice A (n + 1) c) e 1 (n + 1) (xs ++ [v])) (row (.slice A n c) e 1 n xs) L L') (hl : xs.length = n) (k : Hold w0 L' G) : Hold w0 L G := by
 have e1 : (xs ++ [v]).take (n * 1) = xs := by rw [Nat.mul_one, ← hl, List.take_left]
 have hr2 : Rep (row (.slice A (n + 1) c) e 1 (n + 1) (xs ++ [v])) (row (.slice A n c) e 1 n ((xs ++ [v]).take (n * 1))) L L' := by rw [e1]; exact hr
 exact row_shrink hr2 (Nat.le_succ n) k
end
end Go.K
end
section
namespace Go.K
open Go.RowKit
section
variable {P : Program} {w0 : World} {L L' : List Chunk} {l : List Value} {d : Option Tmp} {ty : TypeId} {ps : String} {af : Array Edge} {g : Option (Nat × Bool)}
def RetU {ρ : Type} (ok : ρ → Prop) (val : ρ → Value) (w0 : World) (L' : ρ → List Chunk) : Ending → World → Prop :=
 fun e w' => ∃ r, ok r ∧ e = .returned (val r) ∧ St w0 (L' r) w'
theorem enterU {P : Program} {f : FuncId} {fn : Func} {c : Code} {args : List Value} {n : Nat} {w0 w : World} {L : List Chunk} {R : Ending → World → Prop} (hf : P.funcs[f]? = some fn) (hb : fn.body = some c) (hn : fn.ntmps - args.length = n) (hw : St w0 L w)
  (k : Hold w0 L (c.wp P (bodyPost P fn R) (fr (args ++ List.replicate n undef)))) : Calls P f args.toArray w R := by
 refine calls_of_wp hf hb ?_
 have h1 := k w hw
 subst hn
 have e : args.toArray ++ Array.replicate (fn.ntmps - args.toArray.size) undef = (args ++ List.replicate (fn.ntmps - args.length) undef).toArray := by
  apply Array.toList_inj.1; simp
 rw [e]
 exact h1
theorem retsU {ρ : Type} {ok : ρ → Prop} {val : ρ → Value} {D : ρ → List Chunk} {v : Value} (r : ρ) (hok : ok r) (hv : v = val r) (hD : List.Sublist (D r) L) : Hold w0 L (RetU ok val w0 D (.returned v)) :=
 fun _ hw => ⟨r, hok, by rw [hv], hw.sub hD⟩
theorem callU {ρ : Type} {ok : ρ → Prop} {val : ρ → Value} {D : ρ → List Chunk} {x : Operand} {args : List Operand} {f : FuncId} {first cap : List Value} {ts : Array TypeId} (hx : ev l x = .func (.func f) first.toArray cap.toArray) (hf : callable P f = true)
  (hc : ∀ w, St w0 L w → Calls P f (first ++ args.map (ev l) ++ cap).toArray w (RetU ok val w0 D)) :
  Upd P w0 L ⟨d, .call { callee := .value x, args := args.toArray, argTypes := ts }, ty, ps, af, g⟩ l ok val D := fun w hw => by
 refine OpT.of_enter (w' := w) (f := f) (args := (first ++ args.map (ev l) ++ cap).toArray) ?_ ((hc w hw).mono ?_)
 ·have e : first.toArray ++ args.toArray.map (ev l) ++ cap.toArray = (first ++ args.map (ev l) ++ cap).toArray := by
   apply Array.toList_inj.1; simp
  simp only [execOp, resolve, hx, Deferred.ofValue, Sem.run_bind, Sem.run_pure, Result.andThen_ok, invoke, e, run_call hf]
 ·rintro e w' ⟨r, hr, rfl, hb⟩
  exact ⟨_, rfl, r, hr, rfl, hb⟩
theorem callU_f {ρ : Type} {ok : ρ → Prop} {val : ρ → Value} {D : ρ → List Chunk} {args : List Operand} {f : FuncId} {ts : Array TypeId} (hf : callable P f = true)
  (hc : ∀ w, St w0 L w → Calls P f (args.map (ev l)).toArray w (RetU ok val w0 D)) :
  Upd P w0 L ⟨d, .call { callee := .value (.func f), args := args.toArray, argTypes := ts }, ty, ps, af, g⟩ l ok val D :=
 callU (first := []) (cap := []) rfl hf (by simpa using hc)
variable {t kt b : Nat} {kvs : List (Value × Int)} {key : Value} {bo : Option (Nat × Nat)}
def PutQ (kvs : List (Value × Int)) (key : Value) (v : Int) (kvs' : List (Value × Int)) : Prop :=
 ((∀ p ∈ kvs, p.1 ≠ key) ∧ kvs' = kvs ++ [(key, v)]) ∨ ∃ j n, kvs[j]? = some (key, n) ∧ kvs' = kvs.set j (key, v)
theorem mapUpdate_mq {x y z : Operand} {v : Int} {M' : List (Value × Int) → List Chunk} (hM : MapT P t kt) (hx : ev l x = .map (some b)) (hy : ev l y = key) (hz : ev l z = .int .i64 v) (hk : ∃ q, keyOf P kt key = some q) (hks : ∀ p ∈ kvs, ∃ q, keyOf P kt p.1 = some q)
  (hr : ∀ kvs', Rep (mq b none kvs) (mq b none kvs') L (M' kvs')) :
  Upd P w0 L ⟨d, .mapUpdate t x y z, ty, ps, af, g⟩ l (fun kvs' => PutQ kvs key v kvs') (fun _ => undef) M' := fun w hw => by
 obtain ⟨es, clock, h1, h2, h3, h4, h6⟩ := (hw.2.1 _ (hr []).mem).1
 obtain ⟨e, hu, _⟩ := hM.u
 obtain ⟨q, hq⟩ := hk
 have hall := mq_keys (P := P) (kt := kt) h2 hks
 have hlen : es.toList.length = kvs.length := by simpa using congrArg List.length h2
 have hc := hM.law.check w false hq
 have hst := hM.law.stays w hq
 rcases hM.law.find w hq es.toList hall with ⟨hf, hne⟩ | ⟨j, e0, hf, he, hkey⟩
 ·refine OpT.of_skip (w' := { w with heap := w.heap.setIfInBounds b (.map (es.push ⟨key, .int .i64 v, clock⟩) (clock + 1)) }) ?_ ⟨kvs ++ [(key, v)], .inl ⟨mq_none h2 hne, rfl⟩, rfl, ?_⟩
  ·simp [execOp, hx, hy, hz, Instr.mapUpdate, run_underlying hu, MapKept.run_getObj_map h1, hc, hf, MapKept.run_setObj_map _ h1, Result.andThen]
  ·refine hw.upd (hr _) (grownBy_setMap w b _) (fun k hk => by cases hk; rfl) ⟨_, _, map_set h1, ?_, ?_, ?_, by simp⟩ (fun k hk => .inl hk)
   ·simp [h2]
   ·simp only [Array.toList_push, List.map_append, List.map_cons, List.map_nil]
    refine List.nodup_append.2 ⟨h3, by simp, fun a ha c hc he => ?_⟩
    obtain ⟨e1, he1, rfl⟩ := List.mem_map.1 ha
    simp at hc
    have := h4 e1 he1
    omega
   ·intro e1 he1
    simp only [Array.toList_push, List.mem_append, List.mem_singleton] at he1
    rcases he1 with he1 | rfl
    ·have := h4 e1 he1; omega
    ·simp
 ·obtain ⟨n, hn0, hn⟩ := mq_at h2 he
  have he' : es[j]? = some e0 := by simpa using he
  have hm : ∀ k, ((es.modify j fun e => { e with key := key, val := .int .i64 v }).toList)[k]? = (es.toList[k]?).map fun e => if j = k then { e with key := key, val := .int .i64 v } else e := fun k => by
   simp only [Array.toList_modify, List.getElem?_modify]
   split <;> rename_i h <;> simp [h]
  have hborn : (es.modify j fun e => { e with key := key, val := .int .i64 v }).toList.map (·.born) = es.toList.map (·.born) := by
   apply List.ext_getElem?
   intro k
   rw [List.getElem?_map, hm, List.getElem?_map, Option.map_map]
   congr 1
   funext e
   simp only [Function.comp]
   split <;> rfl
  refine OpT.of_skip (w' := { w with heap := w.heap.setIfInBounds b (.map (es.modify j fun e => { e with key := key, val := .int .i64 v }) clock) }) ?_ ⟨kvs.set j (key, v), .inr ⟨j, n, by rw [hn0, hkey], rfl⟩, rfl, ?_⟩
  ·simp [execOp, hx, hy, hz, Instr.mapUpdate, run_underlying hu, MapKept.run_getObj_map h1, hc, hf, he', hkey, hst, MapKept.run_setObj_map _ h1, Result.andThen]
  ·refine hw.upd (hr _) (grownBy_setMap w b _) (fun k hk => by cases hk; rfl) ⟨_, _, map_set h1, ?_, by rw [hborn]; exact h3, ?_, by simp⟩ (fun k hk => .inl hk)
   ·apply List.ext_getElem?
    intro k
    have h7 := congrArg (fun l => l[k]?) h2
    simp only [List.getElem?_map] at h7
    rw [List.getElem?_map, hm, List.getElem?_map, Option.map_map]
    by_cases hjk : j = k
    ·subst hjk
     have hjl : j < kvs.length := (List.getElem?_eq_some_iff.1 hn0).1
     rw [he, List.getElem?_set_self hjl]; simp
    ·rw [List.getElem?_set_ne hjk, ← h7]
     cases es.toList[k]? with
     | none => rfl
     | some e1 => simp [hjk]
   ·intro e1 he1
    have h8 : e1.born ∈ es.toList.map (·.born) := by rw [← hborn]; exact List.mem_map_of_mem he1
    obtain ⟨e2, he2, hh⟩ := List.mem_map.1 h8
    have := h4 e2 he2
    omega
end
end Go.K
end
section
namespace Go.Proofs.YtnhhfkgldoeifaaGreatDoor.Pn
open Go.RowKit Go
open Go.K (setd setn ev nth over cl eI eP eT setM setF)
attribute [local irreducible] K.blk K.row

set_option maxRecDepth 100000 in
theorem c95 {gf : Nat} {cap : List Value} {pre : (Nat → Prop) → World → Prop} {XS : List Int} {w : World} (hcal : K.callable Tryz.prog gf = true) (hit : R.IterC Tryz.prog gf [] cap pre (fun n : Int => Value.int .i64 n) XS) (hpre : ∀ f w1, Below w.heap.size w w1 → (∀ i, i < w.heap.size → ¬ f i) → pre f w1) (hX : XS.length ≤ 1000000) :
  Calls Tryz.prog 112 [.slice none 0 0, .func (.func gf) #[] cap.toArray].toArray w (K.RetS 3 1 K.eI XS w) := by
 refine R.enter (args := [.slice none 0 0, .func (.func gf) #[] cap.toArray]) Tryz.func112 rfl (m := 11) rfl ?_
 refine zR ?_
 refine R.seq ?_
 refine R.gA rfl ?_
 refine qn (K.box) fun b2 => ?_
 refine qa ?_
 refine K.lA ?_
 refine R.out ?_
 refine R.dA ?_
 refine R.seq ?_
 refine R.seq ?_
 refine R.gA rfl ?_
 refine K.jC (e := 3) (size := 1) ?_
 refine qm ?_
 refine K.lA ?_
 refine R.out ?_
 refine R.dA ?_
 refine R.block ?_
 refine R.rangeC (gf := gf) (first := []) (cap := cap) (enc := (fun n : Int => Value.int .i64 n)) (XS := XS) rfl hcal [K.row (.slice none 0 0) 3 1 0 [], K.blk b2 26 [.slice none 0 0]] [] (K.st_perm (show List.Perm [K.row (.slice none 0 0) 3 1 0 [], K.blk b2 26 [.slice none 0 0]] ([K.row (.slice none 0 0) 3 1 0 [], K.blk b2 26 [.slice none 0 0]] ++ []) from Kq.p0)) R.fixN hit (fun f w1 hf => hpre f w1 hf.1.1 hf.2.2) (fun k L => ∃ (Q1 : Option Addr) (q1 : Nat), L = [K.row (.slice Q1 (XS.take k).length q1) 3 1 (XS.take k).length ((XS.take k).flatMap K.eI), K.blk b2 26 [.slice Q1 (XS.take k).length q1]]) (fun cX L => False) ?_ ?_ ?_ ?_
 ·exact ⟨none, 0, rfl⟩
 ·intro k s L lr E hs hE hJ
  obtain ⟨Q1, q1, rfl⟩ := hJ
  have hkl : k < XS.length := (List.getElem?_eq_some_iff.1 hs).1
  have htk : (XS.take k).length = k := by rw [List.length_take]; omega
  try dsimp only [List.cons_append, List.nil_append]
  refine zY ?_
  refine R.gA rfl ?_
  refine qa ?_
  refine K.lA ?_
  refine R.out ?_
  refine R.dA ?_
  refine R.bodyC' rfl (fun E hE => ?_)
  dsimp only [List.dropLast, List.cons_append, List.nil_append]
  refine zN ?_
  refine R.block ?_
  refine R.gA rfl ?_
  refine ql (K.fA gC rfl (K.m1) rfl) ?_
  refine qm ?_
  refine qn (K.buildSlice (bs1 _)) fun b10 => ?_
  refine K.xB (K.append el_26 rfl rfl (K.PtrL.own' (K.m0)) rfl rfl (by decide) (by omega) (by omega) (fun _ _ => K.rp1)) rfl ?_
  rintro ⟨g11, c11⟩ _
  refine zN ?_
  refine qt (K.store sz_26 rfl rfl rfl rfl (K.rp2)) ?_
  refine K.lA ?_
  refine R.out ?_
  refine R.kA ?_
  have e1 : (XS.take (k + 1)) = (XS.take k) ++ [s] := by rw [List.take_add_one, hs]; rfl
  exact R.rp_normal (L := [K.row (.slice (some ⟨g11, 0, none⟩) ((XS.take k).length + 1) c11) 3 1 ((XS.take k).length + 1) ((XS.take k).flatMap K.eI ++ [.int .i64 s]), K.blk b2 26 [.slice (some ⟨g11, 0, none⟩) ((XS.take k).length + 1) c11]]) ⟨some ⟨g11, 0, none⟩, c11, by rw [e1, List.length_append, List.flatMap_append]; rfl⟩ (by repeat (first | exact List.Sublist.refl _ | apply List.Sublist.cons))
 ·intro bD L hJ
  obtain ⟨Q1, q1, rfl⟩ := hJ
  rw [List.take_length]
  try dsimp only [List.cons_append, List.nil_append]
  refine zY ?_
  refine R.kA ?_
  refine R.dA ?_
  refine R.seq ?_
  refine R.gA rfl ?_
  refine ql (K.fA gC rfl (K.m1) rfl) ?_
  refine qa ?_
  refine K.lA ?_
  refine R.out ?_
  refine R.dA ?_
  refine R.ret ?_
  refine R.end_ret1 rfl (by dsimp only [List.dropLast]; exact (fun w _ => K.res_tmp rfl w)) ?_
  dsimp only [List.dropLast]
  exact K.rets_s K.m0 rfl rfl rfl
 ·intro bD cX L hJ
  exact hJ.elim
  skip

set_option maxRecDepth 100000 in
theorem c62 {gf : Nat} {cap : List Value} {pre : (Nat → Prop) → World → Prop} {XS : List Int} {w : World} (hcal : K.callable Tryz.prog gf = true) (hit : R.IterC Tryz.prog gf [] cap pre (fun n : Int => Value.int .i64 n) XS) (hpre : ∀ f w1, Below w.heap.size w w1 → (∀ i, i < w.heap.size → ¬ f i) → pre f w1) (hX : XS.length ≤ 1000000) :
  Calls Tryz.prog 73 [.func (.func gf) #[] cap.toArray].toArray w (K.RetS 3 1 K.eI XS w) := by
 refine K.enter (args := [.func (.func gf) #[] cap.toArray]) Tryz.func73 rfl (n := 4) rfl ?_
 refine zR ?_
 refine sr (qa ?_)
 refine sn (sr (qm ?_))
 refine K.gB (K.lB cal_112 (fun F w hF hw => c95 hcal hit (fun f w1 hb hf => hpre f w1 (hw.1.trans (hb.mono hw.1.size)) (fun i hi => hf i (Nat.lt_of_lt_of_le hi hw.1.size))) hX)) rfl ?_
 rintro ⟨Q1, q1⟩ hq
 refine zN ?_
 refine qa ?_
 refine sn (K.ret (et ?_))
 exact K.rets_s K.m0 rfl rfl rfl

set_option maxRecDepth 100000 in
theorem e61 {m : Mod} {A B C : Option Addr} {c d e : Nat} {s p : Int} {w : World} (hH : K.Rd w A 1 K.eI m.hs) (hP : K.Rd w B 5 eN m.ps) (hS : K.Rd w C 4 eS m.ss) (hn : m.hs.length ≤ 4611686018427387904) (hm : m.ps.length ≤ 4611686018427387904) (hk : m.ss.length ≤ 4611686018427387904) (hcd : m.ps.length ≤ d) (hc : (chk m).2.2 ≠ 0) :
  Calls Tryz.prog 72 [.agg #[.int .i64 m.W, .int .i64 m.D, .slice A m.hs.length c, .slice B m.ps.length d, .slice C m.ss.length e], .int .i64 s, .int .i64 p].toArray w (K.Gives (.tuple #[.pointer none, .int .i64 (chk m).2.2]) w) := by
 refine K.enter (args := [.agg #[.int .i64 m.W, .int .i64 m.D, .slice A m.hs.length c, .slice B m.ps.length d, .slice C m.ss.length e], .int .i64 s, .int .i64 p]) Tryz.func72 rfl (n := 34) rfl ?_
 refine zR ?_
 refine sr ?_
 refine qn (K.box) fun b3 => ?_
 iterate 2 refine qa ?_
 refine sn (sr (ql (K.jA cC rfl (K.m0) rfl) ?_))
 refine qc (K.nA cal_48 (fun F w hF hw => e67 (hH.pass hw) (hP.pass hw) (hS.pass hw) hn hm hk hcd hc)) ?_
 refine qm ?_
 iterate 2 refine qx ?_
 iterate 2 refine qa ?_
 refine sn (K.seq (K.block (sr (qm ?_))))
 refine qp (K.neq rfl rfl) ?_
 refine qa ?_
 refine sn (K.yA (by exact congrArg Value.bool (decide_eq_true hc)) ?_)
 refine sr (qm ?_)
 iterate 2 refine qa ?_
 refine sn (K.ret (K.qA (K.iA ?_)))
 refine K.wA (fun w _ => K.qB rfl w) ?_
 exact K.gives rfl

set_option maxRecDepth 100000 in
theorem f61 {m : Mod} {A B C : Option Addr} {c d e : Nat} {s p : Int} {w : World} (hH : K.Rd w A 1 K.eI m.hs) (hP : K.Rd w B 5 eN m.ps) (hS : K.Rd w C 4 eS m.ss) (hn : m.hs.length ≤ 4611686018427387904) (hm : m.ps.length ≤ 4611686018427387904) (hk : m.ss.length ≤ 4611686018427387904) (hcd : m.ps.length ≤ d) (hc : (chk m).2.2 = 0) (ha : asE m s p ≠ 0) :
  Calls Tryz.prog 72 [.agg #[.int .i64 m.W, .int .i64 m.D, .slice A m.hs.length c, .slice B m.ps.length d, .slice C m.ss.length e], .int .i64 s, .int .i64 p].toArray w (K.Gives (.tuple #[.pointer none, .int .i64 4]) w) := by
 unfold asE at ha
 refine K.enter (args := [.agg #[.int .i64 m.W, .int .i64 m.D, .slice A m.hs.length c, .slice B m.ps.length d, .slice C m.ss.length e], .int .i64 s, .int .i64 p]) Tryz.func72 rfl (n := 34) rfl ?_
 refine zR ?_
 refine sr ?_
 refine qn (K.box) fun b3 => ?_
 iterate 2 refine qa ?_
 refine sn (sr (ql (K.jA cC rfl (K.m0) rfl) ?_))
 refine K.gB (K.lB cal_48 (fun F w hF hw => g67 (hH.pass hw) (hP.pass hw) (hS.pass hw) hn hm hk hcd (chk_e0 hc))) rfl ?_
 rintro q _
 refine zN ?_
 refine qm ?_
 iterate 2 refine qx ?_
 iterate 2 refine qa ?_
 refine sn (K.seq (K.block (sr (qm ?_))))
 refine qp (K.neq rfl rfl) ?_
 refine qa ?_
 refine sn (K.oA (by rfl) ?_)
 refine sr (qp (K.aA fo_30_4 rfl) ?_)
 refine ql (K.fA one_28 rfl (K.m1) rfl) ?_
 refine qp (K.aB tC rfl) ?_
 refine qp (K.oB rfl rfl (by omega)) ?_
 refine qm ?_
 refine qn (K.buildSlice (bs1 _)) fun b25 => ?_
 refine qc (K.nA cal_49 (fun F w hF hw => c50_1 hw (hF _ (K.m0)))) ?_
 refine qm ?_
 refine K.split 27 rfl (fun hg27 => ?_) (fun hg27 => ?_)
 ·try replace hg27 := Kq.oT hg27
  iterate 7 refine qs ?_
  refine qp (K.sA rfl) ?_
  refine qa ?_
  refine sn (K.yA rfl ?_)
  refine sr ?_
  iterate 2 refine qa ?_
  refine sn (K.ret (K.qA (K.iA ?_)))
  refine K.wA (fun w _ => K.qB rfl w) ?_
  exact K.gives rfl
 try replace hg27 := Kq.oF hg27
 refine qp (K.aA bC rfl) ?_
 refine ql (K.fA lC rfl (K.m2) rfl) ?_
 refine qp (K.aB oC rfl) ?_
 refine qp (K.oB rfl rfl (by omega)) ?_
 refine qm ?_
 refine qn (K.buildSlice (bs1 _)) fun b33 => ?_
 refine qc (K.nA cal_49 (fun F w hF hw => c50_1 hw (hF _ (K.m0)))) ?_
 refine qp (K.dB rfl) ?_
 refine qa ?_
 refine sn ?_
 refine K.cond rfl (fun ht19 => ?_) (fun ht19 => ?_)
 ·try replace ht19 := Kq.oT ht19
  refine sr ?_
  iterate 2 refine qa ?_
  refine sn (K.ret (K.qA (K.iA ?_)))
  refine K.wA (fun w _ => K.qB rfl w) ?_
  exact K.gives rfl
 try replace ht19 := Kq.oF ht19
 refine K.skip (K.kA (K.dA (sr (qm ?_))))
 iterate 2 refine qa ?_
 refine sn (K.ret ?_)
 refine K.wA (fun w _ => K.qB rfl w) ?_
 exact absurd (by rw [if_neg (by omega)]) ha

set_option maxRecDepth 100000 in
theorem g61 {m : Mod} {A B C : Option Addr} {c d e : Nat} {s p : Int} {w : World} (hH : K.Rd w A 1 K.eI m.hs) (hP : K.Rd w B 5 eN m.ps) (hS : K.Rd w C 4 eS m.ss) (hn : m.hs.length ≤ 4611686018427387904) (hm : m.ps.length ≤ 4611686018427387904) (hk : m.ss.length ≤ 4611686018427387904) (hcd : m.ps.length ≤ d) (hc : (chk m).2.2 = 0) (ha : asE m s p = 0) :
  Calls Tryz.prog 72 [.agg #[.int .i64 m.W, .int .i64 m.D, .slice A m.hs.length c, .slice B m.ps.length d, .slice C m.ss.length e], .int .i64 s, .int .i64 p].toArray w (K.Ret (fun _ : Nat => True) (fun b => .tuple #[.pointer (some ⟨b, 0, none⟩), .int .i64 0]) (fun b => [K.blk b 108 (mdl m A B C c d e)]) w) := by
 unfold asE at ha
 refine K.enter (args := [.agg #[.int .i64 m.W, .int .i64 m.D, .slice A m.hs.length c, .slice B m.ps.length d, .slice C m.ss.length e], .int .i64 s, .int .i64 p]) Tryz.func72 rfl (n := 34) rfl ?_
 refine zR ?_
 refine sr ?_
 refine qn (K.box) fun b3 => ?_
 iterate 2 refine qa ?_
 refine sn (sr (ql (K.jA cC rfl (K.m0) rfl) ?_))
 refine K.gB (K.lB cal_48 (fun F w hF hw => g67 (hH.pass hw) (hP.pass hw) (hS.pass hw) hn hm hk hcd (chk_e0 hc))) rfl ?_
 rintro q _
 refine zN ?_
 refine qm ?_
 iterate 2 refine qx ?_
 iterate 2 refine qa ?_
 refine sn (K.seq (K.block (sr (qm ?_))))
 refine qp (K.neq rfl rfl) ?_
 refine qa ?_
 refine sn (K.oA (by rfl) ?_)
 refine sr (qp (K.aA fo_30_4 rfl) ?_)
 refine ql (K.fA one_28 rfl (K.m1) rfl) ?_
 refine qp (K.aB tC rfl) ?_
 refine qp (K.oB rfl rfl (by omega)) ?_
 refine qm ?_
 refine qn (K.buildSlice (bs1 _)) fun b25 => ?_
 refine qc (K.nA cal_49 (fun F w hF hw => c50_1 hw (hF _ (K.m0)))) ?_
 refine qm ?_
 refine K.split 27 rfl (fun hg27 => ?_) (fun hg27 => ?_)
 ·try replace hg27 := Kq.oT hg27
  iterate 7 refine qs ?_
  refine qp (K.sA rfl) ?_
  refine qa ?_
  refine sn (K.yA rfl ?_)
  refine sr ?_
  iterate 2 refine qa ?_
  refine sn (K.ret (K.qA (K.iA ?_)))
  refine K.wA (fun w _ => K.qB rfl w) ?_
  exfalso
  rw [if_pos (by omega)] at ha
  cases ha
 try replace hg27 := Kq.oF hg27
 refine qp (K.aA bC rfl) ?_
 refine ql (K.fA lC rfl (K.m2) rfl) ?_
 refine qp (K.aB oC rfl) ?_
 refine qp (K.oB rfl rfl (by omega)) ?_
 refine qm ?_
 refine qn (K.buildSlice (bs1 _)) fun b33 => ?_
 refine qc (K.nA cal_49 (fun F w hF hw => c50_1 hw (hF _ (K.m0)))) ?_
 refine qp (K.dB rfl) ?_
 refine qa ?_
 refine sn ?_
 refine K.cond rfl (fun ht19 => ?_) (fun ht19 => ?_)
 ·try replace ht19 := Kq.oT ht19
  refine sr ?_
  iterate 2 refine qa ?_
  refine sn (K.ret (K.qA (K.iA ?_)))
  refine K.wA (fun w _ => K.qB rfl w) ?_
  exfalso
  rw [if_pos (by omega)] at ha
  cases ha
 try replace ht19 := Kq.oF ht19
 refine K.skip (K.kA (K.dA (sr (qm ?_))))
 iterate 2 refine qa ?_
 refine sn (K.ret ?_)
 refine K.wA (fun w _ => K.qB rfl w) ?_
 exact K.rets_v q trivial rfl rfl (List.singleton_sublist.2 (by simp))

end Go.Proofs.YtnhhfkgldoeifaaGreatDoor.Pn
end
section
namespace Go.Proofs.YtnhhfkgldoeifaaGreatDoor.Pn
open Go.RowKit Go
open Go.K (setd setn ev nth over cl eI eP eT setM setF)
attribute [local irreducible] K.blk K.row

set_option maxRecDepth 100000 in
theorem e18 {m : Mod} {A B C : Option Addr} {c d e : Nat} {s eye p : Int} {w : World} (hH : K.Rd w A 1 K.eI m.hs) (hP : K.Rd w B 5 eN m.ps) (hS : K.Rd w C 4 eS m.ss) (hn : m.hs.length ≤ 4611686018427387904) (hm : m.ps.length ≤ 4611686018427387904) (hk : m.ss.length ≤ 4611686018427387904) (hcd : m.ps.length ≤ d) (hc : (chk m).2.2 ≠ 0) :
  Calls Tryz.prog 38 [.agg #[.int .i64 m.W, .int .i64 m.D, .slice A m.hs.length c, .slice B m.ps.length d, .slice C m.ss.length e], .int .i64 s, .int .i64 eye, .int .i64 p].toArray w (K.RetSE 3 1 K.eI (hidL m s eye p) (hidE m s eye p) w) := by
 have ha : askE m s p = (chk m).2.2 := by unfold askE; rw [if_pos hc]
 have he : hidE m s eye p = (chk m).2.2 := by rw [hid_a (by rw [ha]; exact hc), ha]
 have hne : hidE m s eye p ≠ 0 := by rw [he]; exact hc
 refine K.enter (args := [.agg #[.int .i64 m.W, .int .i64 m.D, .slice A m.hs.length c, .slice B m.ps.length d, .slice C m.ss.length e], .int .i64 s, .int .i64 eye, .int .i64 p]) Tryz.func38 rfl (n := 35) rfl ?_
 refine zR ?_
 refine sr ?_
 refine qn (K.box) fun b4 => ?_
 iterate 2 refine qa ?_
 refine sn (sr (ql (K.jA cC rfl (K.m0) rfl) ?_))
 iterate 2 refine qm ?_
 refine qc (K.nA cal_72 (fun F w hF hw => e61 (hH.pass hw) (hP.pass hw) (hS.pass hw) hn hm hk hcd hc)) ?_
 refine qm ?_
 iterate 2 refine qx ?_
 iterate 2 refine qa ?_
 refine sn (K.seq (K.block (sr (qm ?_))))
 refine qp (K.neq rfl rfl) ?_
 refine qa ?_
 refine sn (K.yA (by exact congrArg Value.bool (decide_eq_true hc)) ?_)
 refine sr (qm ?_)
 iterate 2 refine qa ?_
 refine sn (K.ret (K.qA (K.iA ?_)))
 refine K.wA (fun w _ => K.qB rfl w) ?_
 exact K.rets_se0 (hidL_e hne) he.symm rfl

set_option maxRecDepth 100000 in
theorem f18 {m : Mod} {A B C : Option Addr} {c d e : Nat} {s eye p : Int} {w : World} (hH : K.Rd w A 1 K.eI m.hs) (hP : K.Rd w B 5 eN m.ps) (hS : K.Rd w C 4 eS m.ss) (hn : m.hs.length ≤ 4611686018427387904) (hm : m.ps.length ≤ 4611686018427387904) (hk : m.ss.length ≤ 4611686018427387904) (hcd : m.ps.length ≤ d) (hc : (chk m).2.2 = 0) (ha : asE m s p ≠ 0) :
  Calls Tryz.prog 38 [.agg #[.int .i64 m.W, .int .i64 m.D, .slice A m.hs.length c, .slice B m.ps.length d, .slice C m.ss.length e], .int .i64 s, .int .i64 eye, .int .i64 p].toArray w (K.RetSE 3 1 K.eI (hidL m s eye p) (hidE m s eye p) w) := by
 have hak : askE m s p = 4 := by unfold askE; rw [if_neg (by omega)]; unfold asE at *; split <;> simp_all
 have he : hidE m s eye p = 4 := by rw [hid_a (by omega), hak]
 have hne : hidE m s eye p ≠ 0 := by omega
 refine K.enter (args := [.agg #[.int .i64 m.W, .int .i64 m.D, .slice A m.hs.length c, .slice B m.ps.length d, .slice C m.ss.length e], .int .i64 s, .int .i64 eye, .int .i64 p]) Tryz.func38 rfl (n := 35) rfl ?_
 refine zR ?_
 refine sr ?_
 refine qn (K.box) fun b4 => ?_
 iterate 2 refine qa ?_
 refine sn (sr (ql (K.jA cC rfl (K.m0) rfl) ?_))
 iterate 2 refine qm ?_
 refine qc (K.nA cal_72 (fun F w hF hw => f61 (hH.pass hw) (hP.pass hw) (hS.pass hw) hn hm hk hcd hc ha)) ?_
 refine qm ?_
 iterate 2 refine qx ?_
 iterate 2 refine qa ?_
 refine sn (K.seq (K.block (sr (qm ?_))))
 refine qp (K.neq rfl rfl) ?_
 refine qa ?_
 refine sn (K.yA (by rfl) ?_)
 refine sr (qm ?_)
 iterate 2 refine qa ?_
 refine sn (K.ret (K.qA (K.iA ?_)))
 refine K.wA (fun w _ => K.qB rfl w) ?_
 exact K.rets_se0 (hidL_e hne) he.symm rfl

set_option maxRecDepth 100000 in
theorem h18 {m : Mod} {A B C : Option Addr} {c d e : Nat} {s p : Nat} {eye : Int} {w : World} (hH : K.Rd w A 1 K.eI m.hs) (hP : K.Rd w B 5 eN m.ps) (hS : K.Rd w C 4 eS m.ss) (hn : m.hs.length ≤ 4611686018427387904) (hm : m.ps.length ≤ 4611686018427387904) (hk : m.ss.length ≤ 4611686018427387904) (hcd : m.ps.length ≤ d) (hc : (chk m).2.2 = 0) (hs : s < m.ss.length) (hp : p < m.ps.length) (hey : ¬ (0 ≤ eye ∧ eye ≤ 2000)) :
  Calls Tryz.prog 38 [.agg #[.int .i64 m.W, .int .i64 m.D, .slice A m.hs.length c, .slice B m.ps.length d, .slice C m.ss.length e], .int .i64 (s : Int), .int .i64 eye, .int .i64 (p : Int)].toArray w (K.RetSE 3 1 K.eI (hidL m s eye p) (hidE m s eye p) w) := by
 have g : Good m := chk_good hc
 have ha : asE m s p = 0 := by unfold asE; rw [if_neg (by omega)]
 have hak : askE m s p = 0 := by unfold askE; rw [if_neg (by omega), ha]
 have he := hid_7 hak hey
 refine K.enter (args := [.agg #[.int .i64 m.W, .int .i64 m.D, .slice A m.hs.length c, .slice B m.ps.length d, .slice C m.ss.length e], .int .i64 (s : Int), .int .i64 eye, .int .i64 (p : Int)]) Tryz.func38 rfl (n := 35) rfl ?_
 refine zR ?_
 refine sr ?_
 refine qn (K.box) fun b4 => ?_
 iterate 2 refine qa ?_
 refine sn (sr (ql (K.jA cC rfl (K.m0) rfl) ?_))
 iterate 2 refine qm ?_
 refine K.gB (K.lB cal_72 (fun F w hF hw => g61 (hH.pass hw) (hP.pass hw) (hS.pass hw) hn hm hk hcd hc ha)) rfl ?_
 rintro q _
 refine zN ?_
 refine qm ?_
 iterate 2 refine qx ?_
 iterate 2 refine qa ?_
 refine sn (K.seq (K.block (sr (qm ?_))))
 refine qp (K.neq rfl rfl) ?_
 refine qa ?_
 refine sn (K.oA (by rfl) ?_)
 refine sr (qm ?_)
 refine qn (K.buildSlice (bs1 _)) fun b25 => ?_
 refine qc (K.nA cal_49 (fun F w hF hw => c50_1 hw (hF _ (K.m0)))) ?_
 refine qa ?_
 refine sn (K.yA (by exact congrArg Value.bool (decide_eq_true hey)) ?_)
 refine sr ?_
 iterate 2 refine qa ?_
 refine sn (K.ret (K.qA (K.iA ?_)))
 refine K.wA (fun w _ => K.qB rfl w) ?_
 exact K.rets_se0 (hidL_e (by omega)) he.symm rfl

set_option maxRecDepth 100000 in
theorem g18 {m : Mod} {A B C : Option Addr} {c d e : Nat} {s p : Nat} {eye : Int} {w : World} (hH : K.Rd w A 1 K.eI m.hs) (hP : K.Rd w B 5 eN m.ps) (hS : K.Rd w C 4 eS m.ss) (hn : m.hs.length ≤ 4611686018427387904) (hm : m.ps.length ≤ 4611686018427387904) (hk : m.ss.length ≤ 4611686018427387904) (hcd : m.ps.length ≤ d) (hc : (chk m).2.2 = 0) (hs : s < m.ss.length) (hp : p < m.ps.length) (hey : 0 ≤ eye ∧ eye ≤ 2000) :
  Calls Tryz.prog 38 [.agg #[.int .i64 m.W, .int .i64 m.D, .slice A m.hs.length c, .slice B m.ps.length d, .slice C m.ss.length e], .int .i64 (s : Int), .int .i64 eye, .int .i64 (p : Int)].toArray w (K.RetSE 3 1 K.eI (hidL m s eye p) (hidE m s eye p) w) := by
 have g : Good m := chk_good hc
 have ha : asE m s p = 0 := by unfold asE; rw [if_neg (by omega)]
 have hak : askE m s p = 0 := by unfold askE; rw [if_neg (by omega), ha]
 have he := hid_0 hak hey
 have hst := g.st hs
 have hW : Way m (m.ss.getD s default).x (m.ss.getD s default).y p := ⟨g, hp, by omega, by omega⟩
 rw [hidL_0 he, he]
 refine K.enter (args := [.agg #[.int .i64 m.W, .int .i64 m.D, .slice A m.hs.length c, .slice B m.ps.length d, .slice C m.ss.length e], .int .i64 (s : Int), .int .i64 eye, .int .i64 (p : Int)]) Tryz.func38 rfl (n := 35) rfl ?_
 refine zR ?_
 refine sr ?_
 refine qn (K.box) fun b4 => ?_
 iterate 2 refine qa ?_
 refine sn (sr (ql (K.jA cC rfl (K.m0) rfl) ?_))
 iterate 2 refine qm ?_
 refine K.gB (K.lB cal_72 (fun F w hF hw => g61 (hH.pass hw) (hP.pass hw) (hS.pass hw) hn hm hk hcd hc ha)) rfl ?_
 rintro q _
 refine zN ?_
 refine qm ?_
 iterate 2 refine qx ?_
 iterate 2 refine qa ?_
 refine sn (K.seq (K.block (sr (qm ?_))))
 refine qp (K.neq rfl rfl) ?_
 refine qa ?_
 refine sn (K.oA (by rfl) ?_)
 refine sr (qm ?_)
 refine qn (K.buildSlice (bs1 _)) fun b25 => ?_
 refine qc (K.nA cal_49 (fun F w hF hw => c50_1 hw (hF _ (K.m0)))) ?_
 refine qa ?_
 refine sn (K.oA (by exact congrArg Value.bool (decide_eq_false (by omega))) ?_)
 refine K.skip (K.kA (K.dA (K.seq ?_)))
 refine K.nB [] uA ?_
 refine dp 0 rfl (K.move) ?_
 refine dp 1 rfl (K.move) ?_
 refine dp 2 rfl (K.nilCheck rfl) ?_
 refine dp 3 rfl (K.aA fo_108_1 rfl) ?_
 refine dm 4 rfl (K.jA pC rfl (K.m1) rfl) ?_
 refine dp 5 rfl (K.move) ?_
 refine dp 6 rfl (K.move) ?_
 refine dp 8 rfl (K.move) ?_
 refine dp 9 rfl (K.move) ?_
 refine K.kB 7 rfl (K.nA cal_52 (fun F w hF hw => c64 (K.PtrL.now hw (hF _ (K.m1))) (hS.pass hw) hs)) (fun _ h => h) (by kernel_rfl) rfl ?_
 refine zN ?_
 refine K.d_loud 10 rfl (K.lB cal_74 (fun F w hF hw => c63 (l := ownS m) w)) (fun _ h => h) (by kernel_rfl) rfl ?_
 rintro ⟨q1, q2, q3, q4, q5⟩ _
 refine zN ?_
 refine K.d_loud 11 rfl (K.lB cal_73 (fun F w hF hw => c62 (cap := [.pointer (some ⟨q1, 0, none⟩), .pointer (some ⟨q2, 0, none⟩), .pointer (some ⟨q5, 0, none⟩), .pointer (some ⟨q3, 0, none⟩), .pointer (some ⟨q4, 0, none⟩)]) cal_113 (c96 (c := c) (d := d) (e := e) (A := A) (B := B) (C := C) (b := q) (hW) g.lb (by omega)) (fun f w1 hb hf => ⟨R.own_later hw (hF _ (K.m4)) hb hf, R.own_later hw (hF _ (K.m3)) hb hf, R.own_later hw (hF _ (K.m0)) hb hf, R.own_later hw (hF _ (K.m2)) hb hf, R.own_later hw (hF _ (K.m1)) hb hf, R.own_later hw (hF _ (K.m6)) hb hf, (hP.pass hw).later hb⟩) (by have := hides_len (l := ownS m) (eye := eye) hW; omega))) (fun _ h => K.tl (K.tl (K.tl (K.tl (K.tl h))))) (by kernel_rfl) rfl ?_
 rintro ⟨Q1, q0⟩ hq
 refine zN ?_
 refine dp 12 rfl (K.assign) ?_
 refine dp 13 rfl (K.assign) ?_
 refine dd (K.dA (K.ret ?_))
 refine K.wA (fun w _ => K.qB rfl w) ?_
 exact K.rets_se K.m0 rfl rfl rfl rfl

theorem c18 {m : Mod} {A B C : Option Addr} {c d e : Nat} {s eye p : Int} {w : World} (hH : K.Rd w A 1 K.eI m.hs) (hP : K.Rd w B 5 eN m.ps) (hS : K.Rd w C 4 eS m.ss) (hn : m.hs.length ≤ 4611686018427387904) (hm : m.ps.length ≤ 4611686018427387904) (hk : m.ss.length ≤ 4611686018427387904) (hcd : m.ps.length ≤ d) : Calls Tryz.prog 38 [.agg #[.int .i64 m.W, .int .i64 m.D, .slice A m.hs.length c, .slice B m.ps.length d, .slice C m.ss.length e], .int .i64 s, .int .i64 eye, .int .i64 p].toArray w (K.RetSE 3 1 K.eI (hidL m s eye p) (hidE m s eye p) w) := by
 by_cases hc : (chk m).2.2 = 0
 ·by_cases ha : asE m s p = 0
  ·have hb : (0 ≤ s ∧ s ≤ (m.ss.length : Int) - 1) ∧ (0 ≤ p ∧ p ≤ (m.ps.length : Int) - 1) := by
    unfold asE at ha; split at ha
    ·cases ha
    ·rename_i h; exact Decidable.not_not.1 h
   obtain ⟨s', rfl⟩ := Int.eq_ofNat_of_zero_le hb.1.1
   obtain ⟨p', rfl⟩ := Int.eq_ofNat_of_zero_le hb.2.1
   by_cases hey : 0 ≤ eye ∧ eye ≤ 2000
   ·exact g18 hH hP hS hn hm hk hcd hc (by omega) (by omega) hey
   ·exact h18 hH hP hS hn hm hk hcd hc (by omega) (by omega) hey
  ·exact f18 hH hP hS hn hm hk hcd hc ha
 ·exact e18 hH hP hS hn hm hk hcd hc




end Go.Proofs.YtnhhfkgldoeifaaGreatDoor.Pn
end
section
namespace Go.Proofs.YtnhhfkgldoeifaaGreatDoor.Pn
open Go.RowKit Go
open Go.K (setd setn ev nth over cl eI eP eT setM setF)
attribute [local irreducible] K.blk K.row

def Ret2 (a b : List Int) (z : Int) (w : World) : Ending → World → Prop :=
 K.Ret (fun r : (Option Addr × Nat) × (Option Addr × Nat) => (a.length = 0 ∨ ∃ b, r.1.1 = some ⟨b, 0, none⟩) ∧ (b.length = 0 ∨ ∃ b, r.2.1 = some ⟨b, 0, none⟩)) (fun r => .tuple #[.slice r.1.1 a.length r.1.2, .slice r.2.1 b.length r.2.2, .int .i64 z]) (fun r => [K.row (.slice r.2.1 b.length r.2.2) 3 1 b.length (b.flatMap K.eI), K.row (.slice r.1.1 a.length r.1.2) 3 1 a.length (a.flatMap K.eI)]) w
theorem ret2_0 {a b : List Int} {z z' : Int} {w : World} {L : List K.Chunk} {v : Value} (ha : a = []) (hb : b = []) (hz : z' = z) (hv : v = .tuple #[.slice none 0 0, .slice none 0 0, .int .i64 z]) : K.Hold w L (Ret2 a b z' w (.returned v)) := by
 subst ha hb hz hv
 exact K.jC (K.jC (K.rets_v ((none, 0), (none, 0)) ⟨.inl rfl, .inl rfl⟩ rfl rfl (by first | exact Kq.sc (Kq.sc (List.nil_sublist _)))))
theorem ret2 {a b : List Int} {z : Int} {w : World} {L : List K.Chunk} {A B : Option Addr} {c d : Nat} {v : Value} (hA : a.length = 0 ∨ ∃ b, A = some ⟨b, 0, none⟩) (hB : b.length = 0 ∨ ∃ b, B = some ⟨b, 0, none⟩) (hs : List.Sublist [K.row (.slice B b.length d) 3 1 b.length (b.flatMap K.eI), K.row (.slice A a.length c) 3 1 a.length (a.flatMap K.eI)] L) (hv : v = .tuple #[.slice A a.length c, .slice B b.length d, .int .i64 z]) : K.Hold w L (Ret2 a b z w (.returned v)) :=
 K.rets_v ((A, c), (B, d)) ⟨hA, hB⟩ hv rfl hs


end Go.Proofs.YtnhhfkgldoeifaaGreatDoor.Pn
end
section
namespace Go.Proofs.YtnhhfkgldoeifaaGreatDoor.Pn
open Go.RowKit Go
open Go.K (setd setn ev nth over cl eI eP eT setM setF)
attribute [local irreducible] K.blk K.row

set_option maxRecDepth 100000 in
theorem e21 {m : Mod} {A B C : Option Addr} {c d e : Nat} {s : Int} {w : World} (hH : K.Rd w A 1 K.eI m.hs) (hP : K.Rd w B 5 eN m.ps) (hS : K.Rd w C 4 eS m.ss) (hn : m.hs.length ≤ 4611686018427387904) (hm : m.ps.length ≤ 4611686018427387904) (hk : m.ss.length ≤ 4611686018427387904) (hcd : m.ps.length ≤ d) (hc : (chk m).2.2 ≠ 0) :
  Calls Tryz.prog 11 [.agg #[.int .i64 m.W, .int .i64 m.D, .slice A m.hs.length c, .slice B m.ps.length d, .slice C m.ss.length e], .int .i64 s].toArray w (Ret2 (sureL m s) (mayL m s) (seenE m s) w) := by
 have he := seen_c (s := s) hc
 refine K.enter (args := [.agg #[.int .i64 m.W, .int .i64 m.D, .slice A m.hs.length c, .slice B m.ps.length d, .slice C m.ss.length e], .int .i64 s]) Tryz.func11 rfl (n := 54) rfl ?_
 refine zR ?_
 refine sr ?_
 refine qn (K.box) fun b2 => ?_
 iterate 3 refine qa ?_
 refine sn (sr (ql (K.jA cC rfl (K.m0) rfl) ?_))
 refine qc (K.nA cal_48 (fun F w hF hw => e67 (hH.pass hw) (hP.pass hw) (hS.pass hw) hn hm hk hcd hc)) ?_
 refine qm ?_
 iterate 2 refine qx ?_
 iterate 2 refine qa ?_
 refine sn (K.seq (K.block (sr (qm ?_))))
 refine qp (K.neq rfl rfl) ?_
 refine qa ?_
 refine sn (K.yA (by exact congrArg Value.bool (decide_eq_true hc)) ?_)
 refine sr (qm ?_)
 iterate 3 refine qa ?_
 refine sn (K.ret (K.qA (K.iA ?_)))
 refine K.wA (fun w _ => K.wB rfl w) ?_
 exact ret2_0 (sure_e (by omega)) (may_e (by omega)) he rfl

set_option maxRecDepth 100000 in
theorem f21 {m : Mod} {A B C : Option Addr} {c d e : Nat} {s : Int} {w : World} (hH : K.Rd w A 1 K.eI m.hs) (hP : K.Rd w B 5 eN m.ps) (hS : K.Rd w C 4 eS m.ss) (hn : m.hs.length ≤ 4611686018427387904) (hm : m.ps.length ≤ 4611686018427387904) (hk : m.ss.length ≤ 4611686018427387904) (hcd : m.ps.length ≤ d) (hc : (chk m).2.2 = 0) (hs : ¬ (0 ≤ s ∧ s ≤ (m.ss.length : Int) - 1)) :
  Calls Tryz.prog 11 [.agg #[.int .i64 m.W, .int .i64 m.D, .slice A m.hs.length c, .slice B m.ps.length d, .slice C m.ss.length e], .int .i64 s].toArray w (Ret2 (sureL m s) (mayL m s) (seenE m s) w) := by
 have he := seen_4 hc hs
 refine K.enter (args := [.agg #[.int .i64 m.W, .int .i64 m.D, .slice A m.hs.length c, .slice B m.ps.length d, .slice C m.ss.length e], .int .i64 s]) Tryz.func11 rfl (n := 54) rfl ?_
 refine zR ?_
 refine sr ?_
 refine qn (K.box) fun b2 => ?_
 iterate 3 refine qa ?_
 refine sn (sr (ql (K.jA cC rfl (K.m0) rfl) ?_))
 refine K.gB (K.lB cal_48 (fun F w hF hw => g67 (hH.pass hw) (hP.pass hw) (hS.pass hw) hn hm hk hcd (chk_e0 hc))) rfl ?_
 rintro q _
 refine zN ?_
 refine qm ?_
 iterate 2 refine qx ?_
 iterate 2 refine qa ?_
 refine sn (K.seq (K.block (sr (qm ?_))))
 refine qp (K.neq rfl rfl) ?_
 refine qa ?_
 refine sn (K.oA (by rfl) ?_)
 refine sr (qp (K.aA fo_30_4 rfl) ?_)
 refine ql (K.fA one_28 rfl (K.m1) rfl) ?_
 refine qp (K.aB tC rfl) ?_
 refine qp (K.oB rfl rfl (by omega)) ?_
 refine qm ?_
 refine qn (K.buildSlice (bs1 _)) fun b24 => ?_
 refine qc (K.nA cal_49 (fun F w hF hw => c50_1 hw (hF _ (K.m0)))) ?_
 refine qa ?_
 refine sn (K.yA (by exact congrArg Value.bool (decide_eq_true hs)) ?_)
 refine sr ?_
 iterate 3 refine qa ?_
 refine sn (K.ret (K.qA (K.iA ?_)))
 refine K.wA (fun w _ => K.wB rfl w) ?_
 exact ret2_0 (sure_e (by omega)) (may_e (by omega)) he rfl

set_option maxRecDepth 100000 in
theorem g21 {m : Mod} {A B C : Option Addr} {c d e : Nat} {s : Nat} {w : World} (hH : K.Rd w A 1 K.eI m.hs) (hP : K.Rd w B 5 eN m.ps) (hS : K.Rd w C 4 eS m.ss) (hn : m.hs.length ≤ 4611686018427387904) (hm : m.ps.length ≤ 4611686018427387904) (hk : m.ss.length ≤ 4611686018427387904) (hcd : m.ps.length ≤ d) (hT : Tab w) (hc : (chk m).2.2 = 0) (hs : s < m.ss.length) :
  Calls Tryz.prog 11 [.agg #[.int .i64 m.W, .int .i64 m.D, .slice A m.hs.length c, .slice B m.ps.length d, .slice C m.ss.length e], .int .i64 (s : Int)].toArray w (Ret2 (sureL m s) (mayL m s) (seenE m s) w) := by
 have g : Good m := chk_good hc
 have hst := g.st hs
 have hgn := g.n
 have he0 := seen_0 hc hs
 rw [sure_0 he0, may_0 he0, he0]
 unfold seenL
 refine K.enter (args := [.agg #[.int .i64 m.W, .int .i64 m.D, .slice A m.hs.length c, .slice B m.ps.length d, .slice C m.ss.length e], .int .i64 (s : Int)]) Tryz.func11 rfl (n := 54) rfl ?_
 refine zR ?_
 refine sr ?_
 refine qn (K.box) fun b2 => ?_
 iterate 3 refine qa ?_
 refine sn (sr (ql (K.jA cC rfl (K.m0) rfl) ?_))
 refine K.gB (K.lB cal_48 (fun F w hF hw => g67 (hH.pass hw) (hP.pass hw) (hS.pass hw) hn hm hk hcd (chk_e0 hc))) rfl ?_
 rintro q _
 refine zN ?_
 refine qm ?_
 iterate 2 refine qx ?_
 iterate 2 refine qa ?_
 refine sn (K.seq (K.block (sr (qm ?_))))
 refine qp (K.neq rfl rfl) ?_
 refine qa ?_
 refine sn (K.oA (by rfl) ?_)
 refine sr (qp (K.aA fo_30_4 rfl) ?_)
 refine ql (K.fA one_28 rfl (K.m1) rfl) ?_
 refine qp (K.aB tC rfl) ?_
 refine qp (K.oB rfl rfl (by omega)) ?_
 refine qm ?_
 refine qn (K.buildSlice (bs1 _)) fun b24 => ?_
 refine qc (K.nA cal_49 (fun F w hF hw => c50_1 hw (hF _ (K.m0)))) ?_
 refine qa ?_
 refine sn (K.oA (by exact congrArg Value.bool (decide_eq_false (by omega))) ?_)
 refine K.skip (K.kA (K.dA (sr (qp (K.aA fo_30_4 rfl) ?_))))
 refine ql (K.fA one_28 rfl (K.m2) rfl) ?_
 refine qm ?_
 refine K.vB (M := []) _ hS.sl tC rfl rfl rfl (by omega) rfl ?_
 intro p29 hp29
 refine zN ?_
 refine qp (K.fieldAddr fo_62_2 rfl) ?_
 refine ql (K.uB kC rfl ((K.PtrL.fld hp29 (k := 2)).any) rfl) ?_
 refine qn (K.alloc zr_46) fun b8 => ?_
 refine qt (K.vA sz_46 rfl rfl rfl rfl (K.rp0)) ?_
 refine sn (K.seq ?_)
 refine K.nB [] uA ?_
 refine dp 0 rfl (K.move) ?_
 refine dp 1 rfl (K.move) ?_
 refine dp 2 rfl (K.nilCheck rfl) ?_
 refine dp 3 rfl (K.aA fo_108_1 rfl) ?_
 refine dm 4 rfl (K.jA pC rfl (K.m2) rfl) ?_
 refine dp 5 rfl (K.move) ?_
 refine dp 6 rfl (K.move) ?_
 refine dp 8 rfl (K.aA fo_46_0 rfl) ?_
 refine dm 9 rfl (K.fA one_3 rfl (K.m0) rfl) ?_
 refine dp 12 rfl (K.move) ?_
 refine dp 13 rfl (K.move) ?_
 refine dp 14 rfl (K.nilCheck rfl) ?_
 refine dp 15 rfl (K.aA fo_108_1 rfl) ?_
 refine dm 16 rfl (K.jA pC rfl (K.m2) rfl) ?_
 refine dp 17 rfl (K.move) ?_
 refine dp 18 rfl (K.move) ?_
 refine dp 20 rfl (K.aA fo_46_1 rfl) ?_
 refine dm 21 rfl (K.fA one_3 rfl (K.m0) rfl) ?_
 refine K.kB 7 rfl (K.nA cal_52 (fun F w hF hw => c64 (K.PtrL.now hw (hF _ (K.m2))) (hS.pass hw) hs)) (fun _ h => h) (by kernel_rfl) rfl ?_
 refine zN ?_
 refine K.kB 10 rfl (K.nA cal_51 (fun F w hF hw => c69 (l := ownS m) (K.PtrL.now hw (hF _ (K.m2))) (K.blk_lt hw (hF _ (K.m2))) (hP.pass hw) g g.lb (by omega) (by omega) (by omega))) (fun _ h => h) (by kernel_rfl) rfl ?_
 refine zN ?_
 refine K.d_loud 11 rfl (K.lB cal_50 (fun F w hF hw => (by have hh := c68 (hT.pass hw) (s := setN (seesB m (ownS m) (m.ss.getD s default).x (m.ss.getD s default).y (m.ss.getD s default).lo) m.ps.length) (setN_63 g.n); rw [bits_set g.n] at hh; exact hh))) (fun _ h => h) (by kernel_rfl) rfl ?_
 rintro ⟨Q1, q1⟩ hq1
 refine zN ?_
 refine K.kB 19 rfl (K.nA cal_52 (fun F w hF hw => c64 (K.PtrL.now hw (hF _ (K.m3))) (hS.pass hw) hs)) (fun _ h => K.tl h) (by kernel_rfl) rfl ?_
 refine zN ?_
 refine K.kB 22 rfl (K.nA cal_51 (fun F w hF hw => c69 (l := ownS m) (K.PtrL.now hw (hF _ (K.m3))) (K.blk_lt hw (hF _ (K.m3))) (hP.pass hw) g g.lb (by omega) (by omega) (by omega))) (fun _ h => K.tl h) (by kernel_rfl) rfl ?_
 refine zN ?_
 refine K.d_loud 23 rfl (K.lB cal_50 (fun F w hF hw => (by have hh := c68 (hT.pass hw) (s := setN (seesB m (ownS m) (m.ss.getD s default).x (m.ss.getD s default).y (m.ss.getD s default).hi) m.ps.length) (setN_63 g.n); rw [bits_set g.n] at hh; exact hh))) (fun _ h => K.tl h) (by kernel_rfl) rfl ?_
 rintro ⟨Q2, q2⟩ hq2
 refine zN ?_
 refine dp 24 rfl (K.assign) ?_
 refine dp 25 rfl (K.assign) ?_
 refine dp 26 rfl (K.assign) ?_
 refine dd (K.dA (K.ret ?_))
 refine K.wA (fun w _ => K.wB rfl w) ?_
 exact ret2 hq1 hq2 (Kq.sc (Kq.sc (List.nil_sublist _))) rfl

theorem c21 {m : Mod} {A B C : Option Addr} {c d e : Nat} {s : Int} {w : World} (hH : K.Rd w A 1 K.eI m.hs) (hP : K.Rd w B 5 eN m.ps) (hS : K.Rd w C 4 eS m.ss) (hn : m.hs.length ≤ 4611686018427387904) (hm : m.ps.length ≤ 4611686018427387904) (hk : m.ss.length ≤ 4611686018427387904) (hcd : m.ps.length ≤ d) (hT : Tab w) : Calls Tryz.prog 11 [.agg #[.int .i64 m.W, .int .i64 m.D, .slice A m.hs.length c, .slice B m.ps.length d, .slice C m.ss.length e], .int .i64 s].toArray w (Ret2 (sureL m s) (mayL m s) (seenE m s) w) := by
 by_cases hc : (chk m).2.2 = 0
 ·by_cases hs : 0 ≤ s ∧ s ≤ (m.ss.length : Int) - 1
  ·obtain ⟨s', rfl⟩ := Int.eq_ofNat_of_zero_le hs.1
   exact g21 hH hP hS hn hm hk hcd hT hc (by omega)
  ·exact f21 hH hP hS hn hm hk hcd hc hs
 ·exact e21 hH hP hS hn hm hk hcd hc


set_option maxRecDepth 100000 in
theorem g23 {m : Mod} {A B C : Option Addr} {c d e : Nat} {s p : Nat} {w : World} (hH : K.Rd w A 1 K.eI m.hs) (hP : K.Rd w B 5 eN m.ps) (hS : K.Rd w C 4 eS m.ss) (hn : m.hs.length ≤ 4611686018427387904) (hm : m.ps.length ≤ 4611686018427387904) (hk : m.ss.length ≤ 4611686018427387904) (hcd : m.ps.length ≤ d) (hc : (chk m).2.2 = 0) (hs : s < m.ss.length) (hp : p < m.ps.length) :
  Calls Tryz.prog 39 [.agg #[.int .i64 m.W, .int .i64 m.D, .slice A m.hs.length c, .slice B m.ps.length d, .slice C m.ss.length e], .int .i64 (s : Int), .int .i64 (p : Int)].toArray w (K.Gives (.tuple #[.int .i64 (eyeR m s p).1, .int .i64 (eyeR m s p).2]) w) := by
 have g : Good m := chk_good hc
 have ha : asE m s p = 0 := by unfold asE; rw [if_neg (by omega)]
 have hak : askE m s p = 0 := by unfold askE; rw [if_neg (by omega), ha]
 have hst := g.st hs
 have hW : Way m (m.ss.getD s default).x (m.ss.getD s default).y p := ⟨g, hp, by omega, by omega⟩
 have hR : eyeR m s p = if eyeS m (ownS m) (m.ss.getD s default).x (m.ss.getD s default).y p > 2000 then (0, 9) else (eyeS m (ownS m) (m.ss.getD s default).x (m.ss.getD s default).y p, 0) := by unfold eyeR; rw [if_neg (by omega)]; rfl
 refine R.enter (args := [.agg #[.int .i64 m.W, .int .i64 m.D, .slice A m.hs.length c, .slice B m.ps.length d, .slice C m.ss.length e], .int .i64 (s : Int), .int .i64 (p : Int)]) Tryz.func39 rfl (m := 64) rfl ?_
 refine zR ?_
 refine R.seq ?_
 refine R.gA rfl ?_
 refine qn (K.box) fun b3 => ?_
 refine qn (K.box) fun b5 => ?_
 iterate 2 refine qa ?_
 refine K.lA ?_
 refine R.out ?_
 refine R.dA ?_
 refine R.seq ?_
 refine R.gA rfl ?_
 refine ql (K.jA cC rfl (K.m1) rfl) ?_
 refine qm ?_
 refine ql (K.fA one_3 rfl (K.m0) rfl) ?_
 refine K.gB (K.lB cal_72 (fun F w hF hw => g61 (hH.pass hw) (hP.pass hw) (hS.pass hw) hn hm hk hcd hc ha)) rfl ?_
 rintro q _
 refine zN ?_
 refine qm ?_
 iterate 2 refine qx ?_
 refine qn (K.alloc zr_98) fun b8 => ?_
 refine qt (K.store sz_98 rfl rfl rfl rfl (K.rp0)) ?_
 refine qa ?_
 refine K.lA ?_
 refine R.out ?_
 refine R.dA ?_
 refine R.seq ?_
 refine R.seq ?_
 refine R.gA rfl ?_
 refine qm ?_
 refine qp (K.neq rfl rfl) ?_
 refine K.lA ?_
 refine R.out ?_
 refine R.dA ?_
 refine R.oA (by rfl) ?_
 refine R.skip ?_
 refine R.dA ?_
 refine R.seq ?_
 refine R.gA rfl ?_
 refine qn (K.alloc zr_3) fun b10 => ?_
 refine qt (K.store sz_3 rfl rfl rfl rfl (K.rp0)) ?_
 refine K.lA ?_
 refine R.out ?_
 refine R.dA ?_
 refine R.seq ?_
 refine R.seq ?_
 refine R.nB [] uA rfl ?_
 refine dm 0 rfl (K.fA one_98 rfl (K.m1) rfl) ?_
 refine dm 1 rfl (K.fA one_98 rfl (K.m1) rfl) ?_
 refine dp 2 rfl (K.move) ?_
 refine dm 4 rfl (K.fA one_3 rfl (K.m3) rfl) ?_
 refine K.kB 3 rfl (K.nA cal_52 (fun F w hF hw => c64 (K.PtrL.now hw (hF _ (K.m2))) (hS.pass hw) hs)) (fun _ h => h) (by kernel_rfl) rfl ?_
 refine zN ?_
 refine K.d_loud 5 rfl (K.lB cal_75 (fun F w hF hw => c72 w)) (fun _ h => h) (by kernel_rfl) rfl ?_
 rintro ⟨q1, q2, q3⟩ _
 refine zN ?_
 refine dd ?_
 refine R.out ?_
 refine R.dA ?_
 refine R.block ?_
 refine R.rangeC (gf := 114) (first := []) (cap := [.pointer (some ⟨q1, 0, none⟩), .pointer (some ⟨q3, 0, none⟩), .pointer (some ⟨q2, 0, none⟩)]) (enc := (fun s : Int × Int × Int => Value.agg #[.int .i64 s.1, .int .i64 s.2.1, .int .i64 s.2.2])) (XS := stepsS m (m.ss.getD s default).x (m.ss.getD s default).y p) rfl cal_114 [K.blk b10 3 [.int .i64 0], K.blk b8 98 [.pointer (some ⟨q, 0, none⟩)], K.blk b5 3 [.int .i64 (p : Int)], K.blk b3 30 [.int .i64 m.W, .int .i64 m.D, .slice A m.hs.length c, .slice B m.ps.length d, .slice C m.ss.length e]] [K.blk q3 3 [.int .i64 (p : Int)], K.blk q2 110 [.int .i64 (m.ss.getD s default).x, .int .i64 (m.ss.getD s default).y], K.blk q1 98 [.pointer (some ⟨q, 0, none⟩)], K.blk q 108 (mdl m A B C c d e)] (K.st_perm (show List.Perm [K.blk q3 3 [.int .i64 (p : Int)], K.blk q2 110 [.int .i64 (m.ss.getD s default).x, .int .i64 (m.ss.getD s default).y], K.blk q1 98 [.pointer (some ⟨q, 0, none⟩)], K.blk b10 3 [.int .i64 0], K.blk b8 98 [.pointer (some ⟨q, 0, none⟩)], K.blk q 108 (mdl m A B C c d e), K.blk b5 3 [.int .i64 (p : Int)], K.blk b3 30 [.int .i64 m.W, .int .i64 m.D, .slice A m.hs.length c, .slice B m.ps.length d, .slice C m.ss.length e]] ([K.blk b10 3 [.int .i64 0], K.blk b8 98 [.pointer (some ⟨q, 0, none⟩)], K.blk b5 3 [.int .i64 (p : Int)], K.blk b3 30 [.int .i64 m.W, .int .i64 m.D, .slice A m.hs.length c, .slice B m.ps.length d, .slice C m.ss.length e]] ++ [K.blk q3 3 [.int .i64 (p : Int)], K.blk q2 110 [.int .i64 (m.ss.getD s default).x, .int .i64 (m.ss.getD s default).y], K.blk q1 98 [.pointer (some ⟨q, 0, none⟩)], K.blk q 108 (mdl m A B C c d e)]) from (List.Perm.trans (List.perm_middle (l₁ := [_, _, _])) (List.Perm.cons _ (List.Perm.trans (List.perm_middle (l₁ := [_, _, _])) (List.Perm.cons _ (List.Perm.trans (List.perm_middle (l₁ := [_, _, _, _])) (List.Perm.cons _ (List.Perm.trans (List.perm_middle (l₁ := [_, _, _, _])) (List.Perm.cons _ Kq.p0)))))))))) (R.fixC (R.fixC (R.fixC (R.fixC R.fixN)))) (c100 (c := c) (d := d) (e := e) (A := A) (B := B) (C := C) (b := q) hW) (fun f w hf => ⟨hf.own1 K.m2, hf.own1 K.m0, hf.own1 K.m1, hf.own1 K.m3, hP.pass hf.1⟩) (fun k L => L = [K.blk b10 3 [.int .i64 (eyeK m (ownS m) (m.ss.getD s default).x (m.ss.getD s default).y p k)], K.blk b8 98 [.pointer (some ⟨q, 0, none⟩)], K.blk b5 3 [.int .i64 (p : Int)], K.blk b3 30 [.int .i64 m.W, .int .i64 m.D, .slice A m.hs.length c, .slice B m.ps.length d, .slice C m.ss.length e]]) (fun cX L => False) ?_ ?_ ?_ ?_
 ·rfl
 ·intro k u L lr E hu hE hJ
  subst hJ
  have hstp := hW.step hu
  have hbd := hide_bd (eye := 0) hW g.lb (by omega) hu
  have hee := eyeE_bd hW g.lb hu
  have hkb := eyeK_bd (k := k) hW g.lb
  have hmo : topS m (ownS m) u.1 * u.2.2 - headS m (ownS m) p * u.2.1 = moreE m (ownS m) p u := rfl
  try dsimp only [List.cons_append, List.nil_append]
  refine zY ?_
  refine R.gA rfl ?_
  refine qn (K.alloc zr_141) fun b11 => ?_
  refine qt (K.vA sz_141 rfl rfl rfl rfl (K.rp0)) ?_
  refine K.lA ?_
  refine R.out ?_
  refine R.dA ?_
  refine R.bodyC' rfl (fun E hE => ?_)
  dsimp only [List.dropLast, List.cons_append, List.nil_append]
  have hM := hE _ _ _ (List.Mem.tail _ (List.Mem.tail _ (List.Mem.tail _ (List.Mem.head _))))
  refine zN ?_
  refine R.block ?_
  refine R.seq ?_
  refine R.nB [] uA rfl ?_
  refine dm 0 rfl (K.fA one_98 rfl (K.m2) rfl) ?_
  refine dm 1 rfl (K.fA one_98 rfl (K.m2) rfl) ?_
  refine dp 2 rfl (K.nilCheck rfl) ?_
  refine dp 3 rfl (K.aA fo_108_1 rfl) ?_
  refine dm 4 rfl (K.uB pC rfl (K.PtrL.lit (hM.at1 (K.m5)) (k := 5)) rfl) ?_
  refine dp 5 rfl (K.aA fo_141_0 rfl) ?_
  refine dm 6 rfl (K.fA one_3 rfl (K.m0) rfl) ?_
  refine dp 8 rfl (K.aA fo_141_2 rfl) ?_
  refine dm 9 rfl (K.fA one_3 rfl (K.m0) rfl) ?_
  refine dm 11 rfl (K.fA one_98 rfl (K.m2) rfl) ?_
  refine dm 12 rfl (K.fA one_98 rfl (K.m2) rfl) ?_
  refine dp 13 rfl (K.nilCheck rfl) ?_
  refine dp 14 rfl (K.aA fo_108_1 rfl) ?_
  refine dm 15 rfl (K.uB pC rfl (K.PtrL.lit (hM.at1 (K.m5)) (k := 5)) rfl) ?_
  refine dm 16 rfl (K.fA one_3 rfl (K.m3) rfl) ?_
  refine dp 18 rfl (K.aA fo_141_1 rfl) ?_
  refine dm 19 rfl (K.fA one_3 rfl (K.m0) rfl) ?_
  refine K.kB 7 rfl (K.nA cal_76 (fun F w hF hw => c73 (l := ownS m) (K.PtrL.at_F hM (hF _ (K.m5)) hw (List.cons_ne_nil _ _)) g g.lb (by omega))) (fun _ h => h) (by kernel_rfl) rfl ?_
  refine zN ?_
  refine dp 10 rfl (K.mul_i64 rfl rfl (by omega)) ?_
  refine K.kB 17 rfl (K.nA cal_77 (fun F w hF hw => c74 (l := ownS m) (K.PtrL.at_F hM (hF _ (K.m5)) hw (List.cons_ne_nil _ _)) (hP.pass hw) g g.lb hp)) (fun _ h => h) (by kernel_rfl) rfl ?_
  refine zN ?_
  refine dp 20 rfl (K.mul_i64 rfl rfl (by omega)) ?_
  refine dp 21 rfl (K.Pure.eq (K.oB rfl rfl (by omega)) (show _ = Value.int .i64 (moreE m (ownS m) p u) from rfl)) ?_
  refine dp 22 rfl (K.assign) ?_
  refine dd ?_
  refine R.out ?_
  refine R.dA ?_
  refine R.seq ?_
  refine R.gA rfl ?_
  refine qm ?_
  refine qp (K.geq rfl rfl) ?_
  refine K.lA ?_
  refine R.out ?_
  refine R.dA ?_
  refine R.cond rfl (fun ht53 => ?_) (fun ht53 => ?_)
  ·try replace ht53 := Kq.oT ht53
   have hdv := div_bd (a := moreE m (ownS m) p u) (A := 21600) (b := u.2.2 - u.2.1) (by omega) (by omega)
   refine R.nB [10] uA rfl ?_
   refine dm 0 rfl (K.fA one_3 rfl (K.m1) rfl) ?_
   refine dp 1 rfl (K.move) ?_
   refine dp 2 rfl (K.aA fo_141_2 rfl) ?_
   refine dm 3 rfl (K.fA one_3 rfl (K.m0) rfl) ?_
   refine dp 4 rfl (K.aA fo_141_1 rfl) ?_
   refine dm 5 rfl (K.fA one_3 rfl (K.m0) rfl) ?_
   refine dp 6 rfl (K.oB rfl rfl (by omega)) ?_
   refine dp 7 rfl (K.quo_i64 rfl rfl (by omega) (by omega) (by omega)) ?_
   refine dp 8 rfl (K.tA rfl rfl (by omega)) ?_
   refine dp 9 rfl (K.max_int rfl rfl) ?_
   refine K.eC 10 rfl (K.store sz_3 rfl rfl rfl rfl (K.rp1)) rfl (by kernel_rfl) rfl ?_
   intro _ _
   refine zN ?_
   refine dd ?_
   refine R.out ?_
   refine R.kA ?_
   have e1 : (eyeK m (ownS m) (m.ss.getD s default).x (m.ss.getD s default).y p (k + 1)) = max (eyeK m (ownS m) (m.ss.getD s default).x (m.ss.getD s default).y p k) (moreE m (ownS m) p u / (u.2.2 - u.2.1) + 1) := by rw [eye_next hu, eyeE, if_pos ht53]
   exact R.rp_normal (L := [K.blk b10 3 [.int .i64 (max (eyeK m (ownS m) (m.ss.getD s default).x (m.ss.getD s default).y p k) (moreE m (ownS m) p u / (u.2.2 - u.2.1) + 1))], K.blk b8 98 [.pointer (some ⟨q, 0, none⟩)], K.blk b5 3 [.int .i64 (p : Int)], K.blk b3 30 [.int .i64 m.W, .int .i64 m.D, .slice A m.hs.length c, .slice B m.ps.length d, .slice C m.ss.length e]]) (by rw [e1]) (by repeat (first | exact List.Sublist.refl _ | apply List.Sublist.cons))
  try replace ht53 := Kq.oF ht53
  refine R.skip ?_
  refine R.kA ?_
  have e1 : (eyeK m (ownS m) (m.ss.getD s default).x (m.ss.getD s default).y p (k + 1)) = (eyeK m (ownS m) (m.ss.getD s default).x (m.ss.getD s default).y p k) := by rw [eye_next hu, eyeE, if_neg ht53]; omega
  exact R.rp_normal (L := [K.blk b10 3 [.int .i64 (eyeK m (ownS m) (m.ss.getD s default).x (m.ss.getD s default).y p k)], K.blk b8 98 [.pointer (some ⟨q, 0, none⟩)], K.blk b5 3 [.int .i64 (p : Int)], K.blk b3 30 [.int .i64 m.W, .int .i64 m.D, .slice A m.hs.length c, .slice B m.ps.length d, .slice C m.ss.length e]]) (by rw [e1]) (by repeat (first | exact List.Sublist.refl _ | apply List.Sublist.cons))
 ·intro bD L hJ
  subst hJ
  rw [eye_all]
  try dsimp only [List.cons_append, List.nil_append]
  refine zY ?_
  refine R.kA ?_
  refine R.dA ?_
  refine R.seq ?_
  refine R.seq ?_
  refine R.gA rfl ?_
  refine ql (K.fA one_3 rfl (K.m0) rfl) ?_
  refine qp (K.gtr rfl rfl) ?_
  refine K.lA ?_
  refine R.out ?_
  refine R.dA ?_
  refine R.cond rfl (fun ht65 => ?_) (fun ht65 => ?_)
  ·try replace ht65 := Kq.oT ht65
   refine R.seq ?_
   refine R.gA rfl ?_
   iterate 2 refine qa ?_
   refine K.lA ?_
   refine R.out ?_
   refine R.dA ?_
   refine R.ret ?_
   refine R.iA ?_
   refine R.end_ret1 rfl (by dsimp only [List.dropLast]; exact (fun w _ => K.qB rfl w)) ?_
   dsimp only [List.dropLast]
   exact K.gives (by rw [hR, if_pos ht65]; rfl)
  try replace ht65 := Kq.oF ht65
  refine R.skip ?_
  refine R.dA ?_
  refine R.seq ?_
  refine R.gA rfl ?_
  refine ql (K.fA one_3 rfl (K.m0) rfl) ?_
  iterate 2 refine qa ?_
  refine K.lA ?_
  refine R.out ?_
  refine R.dA ?_
  refine R.ret ?_
  refine R.end_ret1 rfl (by dsimp only [List.dropLast]; exact (fun w _ => K.qB rfl w)) ?_
  dsimp only [List.dropLast]
  exact K.gives (by rw [hR, if_neg ht65]; rfl)
 ·intro bD cX L hJ
  exact hJ.elim
  skip

set_option maxRecDepth 100000 in
theorem e23 {m : Mod} {A B C : Option Addr} {c d e : Nat} {s p : Int} {w : World} (hH : K.Rd w A 1 K.eI m.hs) (hP : K.Rd w B 5 eN m.ps) (hS : K.Rd w C 4 eS m.ss) (hn : m.hs.length ≤ 4611686018427387904) (hm : m.ps.length ≤ 4611686018427387904) (hk : m.ss.length ≤ 4611686018427387904) (hcd : m.ps.length ≤ d) (hc : (chk m).2.2 ≠ 0) :
  Calls Tryz.prog 39 [.agg #[.int .i64 m.W, .int .i64 m.D, .slice A m.hs.length c, .slice B m.ps.length d, .slice C m.ss.length e], .int .i64 s, .int .i64 p].toArray w (K.Gives (.tuple #[.int .i64 (eyeR m s p).1, .int .i64 (eyeR m s p).2]) w) := by
 refine R.enter (args := [.agg #[.int .i64 m.W, .int .i64 m.D, .slice A m.hs.length c, .slice B m.ps.length d, .slice C m.ss.length e], .int .i64 s, .int .i64 p]) Tryz.func39 rfl (m := 64) rfl ?_
 refine zR ?_
 refine R.seq ?_
 refine R.gA rfl ?_
 refine qn (K.box) fun b3 => ?_
 refine qn (K.box) fun b5 => ?_
 iterate 2 refine qa ?_
 refine K.lA ?_
 refine R.out ?_
 refine R.dA ?_
 refine R.seq ?_
 refine R.gA rfl ?_
 refine ql (K.jA cC rfl (K.m1) rfl) ?_
 refine qm ?_
 refine ql (K.fA one_3 rfl (K.m0) rfl) ?_
 refine qc (K.nA cal_72 (fun F w hF hw => e61 (hH.pass hw) (hP.pass hw) (hS.pass hw) hn hm hk hcd hc)) ?_
 refine qm ?_
 iterate 2 refine qx ?_
 refine qn (K.alloc zr_98) fun b8 => ?_
 refine qt (K.store sz_98 rfl rfl rfl rfl (K.rp0)) ?_
 refine qa ?_
 refine K.lA ?_
 refine R.out ?_
 refine R.dA ?_
 refine R.seq ?_
 refine R.seq ?_
 refine R.gA rfl ?_
 refine qm ?_
 refine qp (K.neq rfl rfl) ?_
 refine K.lA ?_
 refine R.out ?_
 refine R.dA ?_
 refine R.yA (by exact congrArg Value.bool (decide_eq_true hc)) ?_
 refine R.seq ?_
 refine R.gA rfl ?_
 refine qm ?_
 iterate 2 refine qa ?_
 refine K.lA ?_
 refine R.out ?_
 refine R.dA ?_
 refine R.ret ?_
 refine R.iA ?_
 refine R.wA (fun w _ => K.qB rfl w) ?_
 have ha : askE m s p = (chk m).2.2 := by unfold askE; rw [if_pos hc]
 exact K.gives (by unfold eyeR; rw [if_pos (by omega), ha]; rfl)

set_option maxRecDepth 100000 in
theorem f23 {m : Mod} {A B C : Option Addr} {c d e : Nat} {s p : Int} {w : World} (hH : K.Rd w A 1 K.eI m.hs) (hP : K.Rd w B 5 eN m.ps) (hS : K.Rd w C 4 eS m.ss) (hn : m.hs.length ≤ 4611686018427387904) (hm : m.ps.length ≤ 4611686018427387904) (hk : m.ss.length ≤ 4611686018427387904) (hcd : m.ps.length ≤ d) (hc : (chk m).2.2 = 0) (ha : asE m s p ≠ 0) :
  Calls Tryz.prog 39 [.agg #[.int .i64 m.W, .int .i64 m.D, .slice A m.hs.length c, .slice B m.ps.length d, .slice C m.ss.length e], .int .i64 s, .int .i64 p].toArray w (K.Gives (.tuple #[.int .i64 (eyeR m s p).1, .int .i64 (eyeR m s p).2]) w) := by
 refine R.enter (args := [.agg #[.int .i64 m.W, .int .i64 m.D, .slice A m.hs.length c, .slice B m.ps.length d, .slice C m.ss.length e], .int .i64 s, .int .i64 p]) Tryz.func39 rfl (m := 64) rfl ?_
 refine zR ?_
 refine R.seq ?_
 refine R.gA rfl ?_
 refine qn (K.box) fun b3 => ?_
 refine qn (K.box) fun b5 => ?_
 iterate 2 refine qa ?_
 refine K.lA ?_
 refine R.out ?_
 refine R.dA ?_
 refine R.seq ?_
 refine R.gA rfl ?_
 refine ql (K.jA cC rfl (K.m1) rfl) ?_
 refine qm ?_
 refine ql (K.fA one_3 rfl (K.m0) rfl) ?_
 refine qc (K.nA cal_72 (fun F w hF hw => f61 (hH.pass hw) (hP.pass hw) (hS.pass hw) hn hm hk hcd hc ha)) ?_
 refine qm ?_
 iterate 2 refine qx ?_
 refine qn (K.alloc zr_98) fun b8 => ?_
 refine qt (K.store sz_98 rfl rfl rfl rfl (K.rp0)) ?_
 refine qa ?_
 refine K.lA ?_
 refine R.out ?_
 refine R.dA ?_
 refine R.seq ?_
 refine R.seq ?_
 refine R.gA rfl ?_
 refine qm ?_
 refine qp (K.neq rfl rfl) ?_
 refine K.lA ?_
 refine R.out ?_
 refine R.dA ?_
 refine R.yA (by rfl) ?_
 refine R.seq ?_
 refine R.gA rfl ?_
 refine qm ?_
 iterate 2 refine qa ?_
 refine K.lA ?_
 refine R.out ?_
 refine R.dA ?_
 refine R.ret ?_
 refine R.iA ?_
 refine R.wA (fun w _ => K.qB rfl w) ?_
 have hak : askE m s p = 4 := by unfold askE; rw [if_neg (by omega)]; unfold asE at *; split <;> simp_all
 exact K.gives (by unfold eyeR; rw [if_pos (by omega), hak]; rfl)

theorem c23 {m : Mod} {A B C : Option Addr} {c d e : Nat} {s p : Int} {w : World} (hH : K.Rd w A 1 K.eI m.hs) (hP : K.Rd w B 5 eN m.ps) (hS : K.Rd w C 4 eS m.ss) (hn : m.hs.length ≤ 4611686018427387904) (hm : m.ps.length ≤ 4611686018427387904) (hk : m.ss.length ≤ 4611686018427387904) (hcd : m.ps.length ≤ d) : Calls Tryz.prog 39 [.agg #[.int .i64 m.W, .int .i64 m.D, .slice A m.hs.length c, .slice B m.ps.length d, .slice C m.ss.length e], .int .i64 s, .int .i64 p].toArray w (K.Gives (.tuple #[.int .i64 (eyeR m s p).1, .int .i64 (eyeR m s p).2]) w) := by
 by_cases hc : (chk m).2.2 = 0
 ·by_cases ha : asE m s p = 0
  ·have hb : (0 ≤ s ∧ s ≤ (m.ss.length : Int) - 1) ∧ (0 ≤ p ∧ p ≤ (m.ps.length : Int) - 1) := by
    unfold asE at ha; split at ha
    ·cases ha
    ·rename_i h; exact Decidable.not_not.1 h
   obtain ⟨s', rfl⟩ := Int.eq_ofNat_of_zero_le hb.1.1
   obtain ⟨p', rfl⟩ := Int.eq_ofNat_of_zero_le hb.2.1
   exact g23 hH hP hS hn hm hk hcd hc (by omega) (by omega)
  ·exact f23 hH hP hS hn hm hk hcd hc ha
 ·exact e23 hH hP hS hn hm hk hcd hc


end Go.Proofs.YtnhhfkgldoeifaaGreatDoor.Pn
end
section
namespace Go.Proofs.YtnhhfkgldoeifaaGreatDoor.Pn
open Go.RowKit Go
open Go.K (setd setn ev nth over cl eI eP eT setM setF)
attribute [local irreducible] K.blk K.row

set_option maxRecDepth 100000 in
set_option maxHeartbeats 1000000 in
theorem c102 {m : Mod} {A B C : Option Addr} {c d e : Nat} {b i : Nat} {l : List Int} {w : World} (hM : K.PtrL w [] ⟨b, 0, none⟩ (mdl m A B C c d e)) (hMb : b < w.heap.size) (hP : K.Rd w B 5 eN m.ps) (hS : K.Rd w C 4 eS m.ss) (g : Good m) (hl : LB l) (hi : i < m.ps.length) :
  Calls Tryz.prog 116 [.pointer (some ⟨b, 0, none⟩), .agg #[iI (l.getD 0 default), iI (l.getD 1 default), iI (l.getD 2 default), iI (l.getD 3 default), iI (l.getD 4 default), iI (l.getD 5 default)], .int .i64 (i : Int)].toArray w (K.Gives (.int .i64 (needS m l i)) w) := by
 have hgn := g.n
 have hgk := g.k
 have hhd := head_bd g hl i
 have hli := hl i
 refine R.enter (args := [.pointer (some ⟨b, 0, none⟩), .agg #[iI (l.getD 0 default), iI (l.getD 1 default), iI (l.getD 2 default), iI (l.getD 3 default), iI (l.getD 4 default), iI (l.getD 5 default)], .int .i64 (i : Int)]) Tryz.func116 rfl (m := 69) rfl ?_
 refine zR ?_
 refine R.seq ?_
 refine R.gA rfl ?_
 refine qn (K.box) fun b3 => ?_
 refine qn (K.box) fun b4 => ?_
 refine qn (K.alloc zr_3) fun b6 => ?_
 refine K.lA ?_
 refine R.out ?_
 refine R.dA ?_
 refine R.seq ?_
 refine R.nB [9] uA rfl ?_
 refine dm 0 rfl (K.fA one_98 rfl (K.m2) rfl) ?_
 refine dm 1 rfl (K.jA pC rfl (K.m1) rfl) ?_
 refine dp 2 rfl (K.move) ?_
 refine dp 4 rfl (K.move) ?_
 refine dp 5 rfl (K.iB ar_105 rfl rfl (by omega) (by omega)) ?_
 refine dm 6 rfl (K.mB one_3 rfl (K.PtrL.own' ((K.m1))) (ln_at' (l := l) (by omega))) ?_
 refine K.d_two 3 8 (by kernel_rfl) ?_ ?_
 ·refine K.s_call 3 rfl (K.nA cal_77 (fun F w hF hw => c74 (hM.into hMb hw) (hP.pass hw) g hl hi)) (fun _ h => h) (by kernel_rfl) rfl ?_
  refine zN ?_
  refine dp 7 rfl (K.Pure.eq (K.oB rfl rfl (by omega)) (show _ = Value.int .i64 (hgS m i) from by rw [head_eq]; exact congrArg _ (by omega))) ?_
  refine K.d_new 8 rfl (K.alloc zr_3) (fun _ h => h) (by kernel_rfl) rfl ?_
  intro b7
  refine zN ?_
  refine K.eC 9 rfl (K.store sz_3 rfl rfl rfl rfl (K.rp0)) rfl (by kernel_rfl) rfl ?_
  intro _ _
  refine zN ?_
  refine dd ?_
  refine R.out ?_
  refine R.dA ?_
  refine R.seq ?_
  refine R.seq ?_
  refine R.gA rfl ?_
  refine ql (K.fA one_98 rfl (K.m3) rfl) ?_
  refine qp (K.nilCheck rfl) ?_
  refine qp (K.aA fo_108_0 rfl) ?_
  refine qp (K.aA fo_30_4 rfl) ?_
  refine ql (K.mB one_28 rfl (hM.any) rfl) ?_
  refine qp (K.aB tC rfl) ?_
  refine qm ?_
  refine K.lA ?_
  refine R.out ?_
  refine R.dA ?_
  refine R.block ?_
  refine R.loopD [26] [8, 9, 10, 11, 27, 28, 29, 30, 31, 32, 33, 34, 35, 36, 38, 39, 40, 41, 42, 43, 44, 45, 46, 47, 48, 49, 50, 51, 52, 53, 54, 55, 56, 57, 58, 59, 60, 61, 62, 63, 64, 65, 66, 67, 68, 69, 70] (fun vi L => ∃ j : Nat, vi = [.int .i64 (j : Int)] ∧ L = [K.blk b7 3 [.int .i64 (hgS m i)], K.blk b6 3 [.int .i64 (needK m l i j)], K.blk b4 105 (ln l), K.blk b3 98 [.pointer (some ⟨b, 0, none⟩)]] ∧ j ≤ m.ss.length) (fun vi => m.ss.length - (intOf (K.nth vi 0)).toNat) ?_ ?_
  ·exact ⟨0, rfl, rfl, Nat.zero_le _⟩
  intro vi vr L bs hJ
  obtain ⟨j, rfl, rfl, hjn⟩ := hJ
  try dsimp only [List.cons_append, List.nil_append]
  refine zY ?_
  refine R.seq ?_
  refine R.gA rfl ?_
  refine qp (K.lss rfl rfl) ?_
  refine K.lA ?_
  refine R.out ?_
  refine R.dA ?_
  refine R.seq ?_
  refine R.cond rfl (fun ht27 => ?_) (fun ht27 => ?_)
  ·try replace ht27 := Kq.oT ht27
   have hj : j < m.ss.length := by omega
   have hst := g.st hj
   have hW : Way m (m.ss.getD j default).x (m.ss.getD j default).y i := ⟨g, hi, by omega, by omega⟩
   have hnb := needK_bd (k := j) g hl hi (by omega)
   refine R.skip ?_
   refine R.dA ?_
   refine R.seq ?_
   refine R.block ?_
   refine R.seq ?_
   refine R.gA rfl ?_
   refine qm ?_
   refine K.vB (M := []) _ hS.sl tC rfl rfl rfl (by omega) rfl ?_
   intro p29 hp29
   refine zN ?_
   refine ql (K.uB ag_62 rfl (hp29.any) rfl) ?_
   refine qn (K.alloc zr_62) fun b9 => ?_
   refine qa ?_
   refine qt (K.vA sz_62 rfl rfl rfl rfl (K.rp0)) ?_
   refine K.lA ?_
   refine R.out ?_
   refine R.dA ?_
   refine R.seq ?_
   refine R.nB [] uA rfl ?_
   refine dm 0 rfl (K.fA one_98 rfl (K.m4) rfl) ?_
   refine dm 1 rfl (K.fA one_98 rfl (K.m4) rfl) ?_
   refine dp 2 rfl (K.move) ?_
   refine dp 4 rfl (K.move) ?_
   refine K.kB 3 rfl (K.nA cal_52 (fun F w hF hw => c64 (hM.into hMb hw) (hS.pass hw) hj)) (fun _ h => h) (by kernel_rfl) rfl ?_
   refine zN ?_
   refine K.d_loud 5 rfl (K.lB cal_75 (fun F w hF hw => c72 w)) (fun _ h => h) (by kernel_rfl) rfl ?_
   rintro ⟨q1, q2, q3⟩ _
   refine zN ?_
   refine dd ?_
   refine R.out ?_
   refine R.dA ?_
   refine R.block ?_
   refine R.rangeC (gf := 114) (first := []) (cap := [.pointer (some ⟨q1, 0, none⟩), .pointer (some ⟨q3, 0, none⟩), .pointer (some ⟨q2, 0, none⟩)]) (enc := (fun s : Int × Int × Int => Value.agg #[.int .i64 s.1, .int .i64 s.2.1, .int .i64 s.2.2])) (XS := stepsS m (m.ss.getD j default).x (m.ss.getD j default).y i) rfl cal_114 [K.blk b9 62 [.int .i64 (m.ss.getD j default).x, .int .i64 (m.ss.getD j default).y, .int .i64 (m.ss.getD j default).lo, .int .i64 (m.ss.getD j default).hi], K.blk b7 3 [.int .i64 (hgS m i)], K.blk b6 3 [.int .i64 (needK m l i j)], K.blk b4 105 (ln l), K.blk b3 98 [.pointer (some ⟨b, 0, none⟩)], R.dfs bs] [K.blk q3 3 [.int .i64 (i : Int)], K.blk q2 110 [.int .i64 (m.ss.getD j default).x, .int .i64 (m.ss.getD j default).y], K.blk q1 98 [.pointer (some ⟨b, 0, none⟩)]] (K.st_perm (show List.Perm [K.blk q3 3 [.int .i64 (i : Int)], K.blk q2 110 [.int .i64 (m.ss.getD j default).x, .int .i64 (m.ss.getD j default).y], K.blk q1 98 [.pointer (some ⟨b, 0, none⟩)], K.blk b9 62 [.int .i64 (m.ss.getD j default).x, .int .i64 (m.ss.getD j default).y, .int .i64 (m.ss.getD j default).lo, .int .i64 (m.ss.getD j default).hi], K.blk b7 3 [.int .i64 (hgS m i)], K.blk b6 3 [.int .i64 (needK m l i j)], K.blk b4 105 (ln l), K.blk b3 98 [.pointer (some ⟨b, 0, none⟩)], R.dfs bs] ([K.blk b9 62 [.int .i64 (m.ss.getD j default).x, .int .i64 (m.ss.getD j default).y, .int .i64 (m.ss.getD j default).lo, .int .i64 (m.ss.getD j default).hi], K.blk b7 3 [.int .i64 (hgS m i)], K.blk b6 3 [.int .i64 (needK m l i j)], K.blk b4 105 (ln l), K.blk b3 98 [.pointer (some ⟨b, 0, none⟩)], R.dfs bs] ++ [K.blk q3 3 [.int .i64 (i : Int)], K.blk q2 110 [.int .i64 (m.ss.getD j default).x, .int .i64 (m.ss.getD j default).y], K.blk q1 98 [.pointer (some ⟨b, 0, none⟩)]]) from (List.Perm.trans (List.perm_middle (l₁ := [_, _, _])) (List.Perm.cons _ (List.Perm.trans (List.perm_middle (l₁ := [_, _, _])) (List.Perm.cons _ (List.Perm.trans (List.perm_middle (l₁ := [_, _, _])) (List.Perm.cons _ (List.Perm.trans (List.perm_middle (l₁ := [_, _, _])) (List.Perm.cons _ (List.Perm.trans (List.perm_middle (l₁ := [_, _, _])) (List.Perm.cons _ (List.Perm.trans (List.perm_middle (l₁ := [_, _, _])) (List.Perm.cons _ Kq.p0)))))))))))))) (R.fixC (R.fixC (R.fixC R.fixN))) (c100 (c := c) (d := d) (e := e) (A := A) (B := B) (C := C) (b := b) hW) (fun f w hf => ⟨hf.own1 K.m2, hf.own1 K.m0, hf.own1 K.m1, hf.old1 hM hMb, hP.pass hf.1⟩) (fun k L => L = [K.blk b9 62 [.int .i64 (m.ss.getD j default).x, .int .i64 (m.ss.getD j default).y, .int .i64 (m.ss.getD j default).lo, .int .i64 (m.ss.getD j default).hi], K.blk b7 3 [.int .i64 (hgS m i)], K.blk b6 3 [.int .i64 (needAK m l i j (needK m l i j) k)], K.blk b4 105 (ln l), K.blk b3 98 [.pointer (some ⟨b, 0, none⟩)], R.dfs bs]) (fun cX L => False) ?_ ?_ ?_ ?_
   ·rw [need_0]
   ·intro k u L lr E hu hE hJ
    subst hJ
    have hstp := hW.step hu
    have hbd := need_bd1 (lo := (m.ss.getD j default).lo) hW hl (by omega) hu
    have hkb := needA_bd (s := j) (k := k) g hl hi hj hnb
    have hmo : topS m l u.1 * u.2.2 - (m.ss.getD j default).lo * (u.2.2 - u.2.1) - hgS m i * u.2.1 = more2 m l (m.ss.getD j default).lo i u := rfl
    try dsimp only [List.cons_append, List.nil_append]
    refine zY ?_
    refine R.gA rfl ?_
    refine qn (K.alloc zr_141) fun b10 => ?_
    refine qt (K.vA sz_141 rfl rfl rfl rfl (K.rp0)) ?_
    refine K.lA ?_
    refine R.out ?_
    refine R.dA ?_
    refine R.bodyC' rfl (fun E hE => ?_)
    dsimp only [List.dropLast, List.cons_append, List.nil_append]
    refine zN ?_
    refine R.block ?_
    refine R.seq ?_
    refine R.nB [] uA rfl ?_
    refine dm 0 rfl (K.fA one_98 rfl (K.m5) rfl) ?_
    refine dm 1 rfl (K.jA pC rfl (K.m4) rfl) ?_
    refine dp 2 rfl (K.aA fo_141_0 rfl) ?_
    refine dm 3 rfl (K.fA one_3 rfl (K.m0) rfl) ?_
    refine dp 5 rfl (K.aA fo_141_2 rfl) ?_
    refine dm 6 rfl (K.fA one_3 rfl (K.m0) rfl) ?_
    refine dp 8 rfl (K.aA fo_62_2 rfl) ?_
    refine dp 9 rfl (K.aA fo_46_0 rfl) ?_
    refine dm 10 rfl (K.fA one_3 rfl (K.m1) rfl) ?_
    refine dp 11 rfl (K.aA fo_141_2 rfl) ?_
    refine dm 12 rfl (K.fA one_3 rfl (K.m0) rfl) ?_
    refine dp 13 rfl (K.aA fo_141_1 rfl) ?_
    refine dm 14 rfl (K.fA one_3 rfl (K.m0) rfl) ?_
    refine dp 15 rfl (K.oB rfl rfl (by omega)) ?_
    refine dp 16 rfl (K.mul_i64 rfl rfl (by omega)) ?_
    refine dm 18 rfl (K.fA one_3 rfl (K.m2) rfl) ?_
    refine dp 19 rfl (K.aA fo_141_1 rfl) ?_
    refine dm 20 rfl (K.fA one_3 rfl (K.m0) rfl) ?_
    refine dp 21 rfl (K.mul_i64 rfl rfl (by omega)) ?_
    refine K.kB 4 rfl (K.nA cal_76 (fun F w hF hw => c73 (hM.into hMb hw) g hl (by omega))) (fun _ h => h) (by kernel_rfl) rfl ?_
    refine zN ?_
    refine dp 7 rfl (K.mul_i64 rfl rfl (by omega)) ?_
    refine dp 17 rfl (K.oB rfl rfl (by omega)) ?_
    refine dp 22 rfl (K.Pure.eq (K.oB rfl rfl (by omega)) (show _ = Value.int .i64 (more2 m l (m.ss.getD j default).lo i u) from rfl)) ?_
    refine dp 23 rfl (K.assign) ?_
    refine dd ?_
    refine R.out ?_
    refine R.dA ?_
    refine R.seq ?_
    refine R.gA rfl ?_
    refine qm ?_
    refine qp (K.geq rfl rfl) ?_
    refine K.lA ?_
    refine R.out ?_
    refine R.dA ?_
    refine R.cond rfl (fun ht62 => ?_) (fun ht62 => ?_)
    ·try replace ht62 := Kq.oT ht62
     have hdv := div_bd (a := more2 m l (m.ss.getD j default).lo i u) (A := 21600) (b := u.2.1) (by omega) (by omega)
     refine R.nB [7] uA rfl ?_
     refine dm 0 rfl (K.fA one_3 rfl (K.m3) rfl) ?_
     refine dp 1 rfl (K.move) ?_
     refine dp 2 rfl (K.aA fo_141_1 rfl) ?_
     refine dm 3 rfl (K.fA one_3 rfl (K.m0) rfl) ?_
     refine dp 4 rfl (K.quo_i64 rfl rfl (by omega) (by omega) (by omega)) ?_
     refine dp 5 rfl (K.tA rfl rfl (by omega)) ?_
     refine dp 6 rfl (K.max_int rfl rfl) ?_
     refine K.eC 7 rfl (K.store sz_3 rfl rfl rfl rfl (K.rp3)) rfl (by kernel_rfl) rfl ?_
     intro _ _
     refine zN ?_
     refine dd ?_
     refine R.out ?_
     refine R.kA ?_
     have e1 : needAK m l i j (needK m l i j) (k + 1) = max (needAK m l i j (needK m l i j) k) (more2 m l (m.ss.getD j default).lo i u / u.2.1 + 1) := by rw [need_next hu, needE, if_pos ht62]
     exact R.rp_normal (L := [K.blk b9 62 [.int .i64 (m.ss.getD j default).x, .int .i64 (m.ss.getD j default).y, .int .i64 (m.ss.getD j default).lo, .int .i64 (m.ss.getD j default).hi], K.blk b7 3 [.int .i64 (hgS m i)], K.blk b6 3 [.int .i64 (max (needAK m l i j (needK m l i j) k) (more2 m l (m.ss.getD j default).lo i u / u.2.1 + 1))], K.blk b4 105 (ln l), K.blk b3 98 [.pointer (some ⟨b, 0, none⟩)], R.dfs bs]) (by rw [e1]) (by repeat (first | exact List.Sublist.refl _ | apply List.Sublist.cons))
    try replace ht62 := Kq.oF ht62
    refine R.skip ?_
    refine R.kA ?_
    have e1 : needAK m l i j (needK m l i j) (k + 1) = needAK m l i j (needK m l i j) k := by rw [need_next hu, needE, if_neg ht62]; omega
    exact R.rp_normal (L := [K.blk b9 62 [.int .i64 (m.ss.getD j default).x, .int .i64 (m.ss.getD j default).y, .int .i64 (m.ss.getD j default).lo, .int .i64 (m.ss.getD j default).hi], K.blk b7 3 [.int .i64 (hgS m i)], K.blk b6 3 [.int .i64 (needAK m l i j (needK m l i j) k)], K.blk b4 105 (ln l), K.blk b3 98 [.pointer (some ⟨b, 0, none⟩)], R.dfs bs]) (by rw [e1]) (by repeat (first | exact List.Sublist.refl _ | apply List.Sublist.cons))
   ·intro bD L hJ
    subst hJ
    rw [need_all]
    try dsimp only [List.cons_append, List.nil_append]
    refine zY ?_
    refine R.markJ (L := [K.blk b7 3 [.int .i64 (hgS m i)], K.blk b6 3 [.int .i64 (needA m l i j (needK m l i j))], K.blk b4 105 (ln l), K.blk b3 98 [.pointer (some ⟨b, 0, none⟩)]]) (K.st_sub (Kq.s1 (Kq.sc (Kq.sc (Kq.sc (Kq.sc (Kq.sc (Kq.s1 (Kq.s1 (Kq.s1 (Kq.sc Kq.s0))))))))))) ?_
    try dsimp only [List.cons_append, List.nil_append]
    refine zN ?_
    refine R.kA ?_
    refine R.kA ?_
    refine R.dA ?_
    refine R.gA rfl ?_
    refine qp (K.tA rfl rfl (by omega)) ?_
    refine qm ?_
    refine K.lA ?_
    refine R.out ?_
    exact R.round_endD (L'' := [K.blk b7 3 [.int .i64 (hgS m i)], K.blk b6 3 [.int .i64 (needK m l i (j + 1))], K.blk b4 105 (ln l), K.blk b3 98 [.pointer (some ⟨b, 0, none⟩)]]) [.int .i64 ((j : Int) + 1)] ⟨j + 1, rfl, rfl, by omega⟩ (by simp [K.nth, intOf]; omega) (by repeat (first | exact List.Sublist.refl _ | apply List.Sublist.cons)) (by kernel_rfl)
   ·intro bD cX L hJ
    exact hJ.elim
    skip
  try replace ht27 := Kq.oF ht27
  refine R.exit ?_
  refine R.pA (R.pA (R.zA (R.dA ?_)))
  refine R.seq ?_
  refine R.gA rfl ?_
  refine ql (K.fA one_3 rfl (K.m1) rfl) ?_
  refine qt (K.store sz_3 rfl rfl rfl rfl (K.rp1)) ?_
  refine K.lA ?_
  refine R.out ?_
  refine R.dA ?_
  refine R.ret ?_
  refine R.end_retD rfl (by dsimp only [List.dropLast]; exact (fun w hw => K.res_c rfl rfl (K.tB one_3 rfl (K.m1) w hw))) ?_
  dsimp only [List.dropLast]
  have e0 : j = m.ss.length := by omega
  exact K.xA rfl (by rw [e0]; rfl)
 refine K.s_new 8 rfl (K.alloc zr_3) (fun _ h => h) (by kernel_rfl) rfl ?_
 intro b7
 refine zN ?_
 refine K.kB 3 rfl (K.nA cal_77 (fun F w hF hw => c74 (hM.into hMb hw) (hP.pass hw) g hl hi)) (fun _ h => K.tl h) (by kernel_rfl) rfl ?_
 refine zN ?_
 refine dp 7 rfl (K.Pure.eq (K.oB rfl rfl (by omega)) (show _ = Value.int .i64 (hgS m i) from by rw [head_eq]; exact congrArg _ (by omega))) ?_
 refine K.eC 9 rfl (K.store sz_3 rfl rfl rfl rfl (K.rp0)) rfl (by kernel_rfl) rfl ?_
 intro _ _
 refine zN ?_
 refine dd ?_
 refine R.out ?_
 refine R.dA ?_
 refine R.seq ?_
 refine R.seq ?_
 refine R.gA rfl ?_
 refine ql (K.fA one_98 rfl (K.m3) rfl) ?_
 refine qp (K.nilCheck rfl) ?_
 refine qp (K.aA fo_108_0 rfl) ?_
 refine qp (K.aA fo_30_4 rfl) ?_
 refine ql (K.mB one_28 rfl (hM.any) rfl) ?_
 refine qp (K.aB tC rfl) ?_
 refine qm ?_
 refine K.lA ?_
 refine R.out ?_
 refine R.dA ?_
 refine R.block ?_
 refine R.loopD [26] [8, 9, 10, 11, 27, 28, 29, 30, 31, 32, 33, 34, 35, 36, 38, 39, 40, 41, 42, 43, 44, 45, 46, 47, 48, 49, 50, 51, 52, 53, 54, 55, 56, 57, 58, 59, 60, 61, 62, 63, 64, 65, 66, 67, 68, 69, 70] (fun vi L => ∃ j : Nat, vi = [.int .i64 (j : Int)] ∧ L = [K.blk b7 3 [.int .i64 (hgS m i)], K.blk b6 3 [.int .i64 (needK m l i j)], K.blk b4 105 (ln l), K.blk b3 98 [.pointer (some ⟨b, 0, none⟩)]] ∧ j ≤ m.ss.length) (fun vi => m.ss.length - (intOf (K.nth vi 0)).toNat) ?_ ?_
 ·exact ⟨0, rfl, rfl, Nat.zero_le _⟩
 intro vi vr L bs hJ
 obtain ⟨j, rfl, rfl, hjn⟩ := hJ
 try dsimp only [List.cons_append, List.nil_append]
 refine zY ?_
 refine R.seq ?_
 refine R.gA rfl ?_
 refine qp (K.lss rfl rfl) ?_
 refine K.lA ?_
 refine R.out ?_
 refine R.dA ?_
 refine R.seq ?_
 refine R.cond rfl (fun ht27 => ?_) (fun ht27 => ?_)
 ·try replace ht27 := Kq.oT ht27
  have hj : j < m.ss.length := by omega
  have hst := g.st hj
  have hW : Way m (m.ss.getD j default).x (m.ss.getD j default).y i := ⟨g, hi, by omega, by omega⟩
  have hnb := needK_bd (k := j) g hl hi (by omega)
  refine R.skip ?_
  refine R.dA ?_
  refine R.seq ?_
  refine R.block ?_
  refine R.seq ?_
  refine R.gA rfl ?_
  refine qm ?_
  refine K.vB (M := []) _ hS.sl tC rfl rfl rfl (by omega) rfl ?_
  intro p29 hp29
  refine zN ?_
  refine ql (K.uB ag_62 rfl (hp29.any) rfl) ?_
  refine qn (K.alloc zr_62) fun b9 => ?_
  refine qa ?_
  refine qt (K.vA sz_62 rfl rfl rfl rfl (K.rp0)) ?_
  refine K.lA ?_
  refine R.out ?_
  refine R.dA ?_
  refine R.seq ?_
  refine R.nB [] uA rfl ?_
  refine dm 0 rfl (K.fA one_98 rfl (K.m4) rfl) ?_
  refine dm 1 rfl (K.fA one_98 rfl (K.m4) rfl) ?_
  refine dp 2 rfl (K.move) ?_
  refine dp 4 rfl (K.move) ?_
  refine K.kB 3 rfl (K.nA cal_52 (fun F w hF hw => c64 (hM.into hMb hw) (hS.pass hw) hj)) (fun _ h => h) (by kernel_rfl) rfl ?_
  refine zN ?_
  refine K.d_loud 5 rfl (K.lB cal_75 (fun F w hF hw => c72 w)) (fun _ h => h) (by kernel_rfl) rfl ?_
  rintro ⟨q1, q2, q3⟩ _
  refine zN ?_
  refine dd ?_
  refine R.out ?_
  refine R.dA ?_
  refine R.block ?_
  refine R.rangeC (gf := 114) (first := []) (cap := [.pointer (some ⟨q1, 0, none⟩), .pointer (some ⟨q3, 0, none⟩), .pointer (some ⟨q2, 0, none⟩)]) (enc := (fun s : Int × Int × Int => Value.agg #[.int .i64 s.1, .int .i64 s.2.1, .int .i64 s.2.2])) (XS := stepsS m (m.ss.getD j default).x (m.ss.getD j default).y i) rfl cal_114 [K.blk b9 62 [.int .i64 (m.ss.getD j default).x, .int .i64 (m.ss.getD j default).y, .int .i64 (m.ss.getD j default).lo, .int .i64 (m.ss.getD j default).hi], K.blk b7 3 [.int .i64 (hgS m i)], K.blk b6 3 [.int .i64 (needK m l i j)], K.blk b4 105 (ln l), K.blk b3 98 [.pointer (some ⟨b, 0, none⟩)], R.dfs bs] [K.blk q3 3 [.int .i64 (i : Int)], K.blk q2 110 [.int .i64 (m.ss.getD j default).x, .int .i64 (m.ss.getD j default).y], K.blk q1 98 [.pointer (some ⟨b, 0, none⟩)]] (K.st_perm (show List.Perm [K.blk q3 3 [.int .i64 (i : Int)], K.blk q2 110 [.int .i64 (m.ss.getD j default).x, .int .i64 (m.ss.getD j default).y], K.blk q1 98 [.pointer (some ⟨b, 0, none⟩)], K.blk b9 62 [.int .i64 (m.ss.getD j default).x, .int .i64 (m.ss.getD j default).y, .int .i64 (m.ss.getD j default).lo, .int .i64 (m.ss.getD j default).hi], K.blk b7 3 [.int .i64 (hgS m i)], K.blk b6 3 [.int .i64 (needK m l i j)], K.blk b4 105 (ln l), K.blk b3 98 [.pointer (some ⟨b, 0, none⟩)], R.dfs bs] ([K.blk b9 62 [.int .i64 (m.ss.getD j default).x, .int .i64 (m.ss.getD j default).y, .int .i64 (m.ss.getD j default).lo, .int .i64 (m.ss.getD j default).hi], K.blk b7 3 [.int .i64 (hgS m i)], K.blk b6 3 [.int .i64 (needK m l i j)], K.blk b4 105 (ln l), K.blk b3 98 [.pointer (some ⟨b, 0, none⟩)], R.dfs bs] ++ [K.blk q3 3 [.int .i64 (i : Int)], K.blk q2 110 [.int .i64 (m.ss.getD j default).x, .int .i64 (m.ss.getD j default).y], K.blk q1 98 [.pointer (some ⟨b, 0, none⟩)]]) from (List.Perm.trans (List.perm_middle (l₁ := [_, _, _])) (List.Perm.cons _ (List.Perm.trans (List.perm_middle (l₁ := [_, _, _])) (List.Perm.cons _ (List.Perm.trans (List.perm_middle (l₁ := [_, _, _])) (List.Perm.cons _ (List.Perm.trans (List.perm_middle (l₁ := [_, _, _])) (List.Perm.cons _ (List.Perm.trans (List.perm_middle (l₁ := [_, _, _])) (List.Perm.cons _ (List.Perm.trans (List.perm_middle (l₁ := [_, _, _])) (List.Perm.cons _ Kq.p0)))))))))))))) (R.fixC (R.fixC (R.fixC R.fixN))) (c100 (c := c) (d := d) (e := e) (A := A) (B := B) (C := C) (b := b) hW) (fun f w hf => ⟨hf.own1 K.m2, hf.own1 K.m0, hf.own1 K.m1, hf.old1 hM hMb, hP.pass hf.1⟩) (fun k L => L = [K.blk b9 62 [.int .i64 (m.ss.getD j default).x, .int .i64 (m.ss.getD j default).y, .int .i64 (m.ss.getD j default).lo, .int .i64 (m.ss.getD j default).hi], K.blk b7 3 [.int .i64 (hgS m i)], K.blk b6 3 [.int .i64 (needAK m l i j (needK m l i j) k)], K.blk b4 105 (ln l), K.blk b3 98 [.pointer (some ⟨b, 0, none⟩)], R.dfs bs]) (fun cX L => False) ?_ ?_ ?_ ?_
  ·rw [need_0]
  ·intro k u L lr E hu hE hJ
   subst hJ
   have hstp := hW.step hu
   have hbd := need_bd1 (lo := (m.ss.getD j default).lo) hW hl (by omega) hu
   have hkb := needA_bd (s := j) (k := k) g hl hi hj hnb
   have hmo : topS m l u.1 * u.2.2 - (m.ss.getD j default).lo * (u.2.2 - u.2.1) - hgS m i * u.2.1 = more2 m l (m.ss.getD j default).lo i u := rfl
   try dsimp only [List.cons_append, List.nil_append]
   refine zY ?_
   refine R.gA rfl ?_
   refine qn (K.alloc zr_141) fun b10 => ?_
   refine qt (K.vA sz_141 rfl rfl rfl rfl (K.rp0)) ?_
   refine K.lA ?_
   refine R.out ?_
   refine R.dA ?_
   refine R.bodyC' rfl (fun E hE => ?_)
   dsimp only [List.dropLast, List.cons_append, List.nil_append]
   refine zN ?_
   refine R.block ?_
   refine R.seq ?_
   refine R.nB [] uA rfl ?_
   refine dm 0 rfl (K.fA one_98 rfl (K.m5) rfl) ?_
   refine dm 1 rfl (K.jA pC rfl (K.m4) rfl) ?_
   refine dp 2 rfl (K.aA fo_141_0 rfl) ?_
   refine dm 3 rfl (K.fA one_3 rfl (K.m0) rfl) ?_
   refine dp 5 rfl (K.aA fo_141_2 rfl) ?_
   refine dm 6 rfl (K.fA one_3 rfl (K.m0) rfl) ?_
   refine dp 8 rfl (K.aA fo_62_2 rfl) ?_
   refine dp 9 rfl (K.aA fo_46_0 rfl) ?_
   refine dm 10 rfl (K.fA one_3 rfl (K.m1) rfl) ?_
   refine dp 11 rfl (K.aA fo_141_2 rfl) ?_
   refine dm 12 rfl (K.fA one_3 rfl (K.m0) rfl) ?_
   refine dp 13 rfl (K.aA fo_141_1 rfl) ?_
   refine dm 14 rfl (K.fA one_3 rfl (K.m0) rfl) ?_
   refine dp 15 rfl (K.oB rfl rfl (by omega)) ?_
   refine dp 16 rfl (K.mul_i64 rfl rfl (by omega)) ?_
   refine dm 18 rfl (K.fA one_3 rfl (K.m2) rfl) ?_
   refine dp 19 rfl (K.aA fo_141_1 rfl) ?_
   refine dm 20 rfl (K.fA one_3 rfl (K.m0) rfl) ?_
   refine dp 21 rfl (K.mul_i64 rfl rfl (by omega)) ?_
   refine K.kB 4 rfl (K.nA cal_76 (fun F w hF hw => c73 (hM.into hMb hw) g hl (by omega))) (fun _ h => h) (by kernel_rfl) rfl ?_
   refine zN ?_
   refine dp 7 rfl (K.mul_i64 rfl rfl (by omega)) ?_
   refine dp 17 rfl (K.oB rfl rfl (by omega)) ?_
   refine dp 22 rfl (K.Pure.eq (K.oB rfl rfl (by omega)) (show _ = Value.int .i64 (more2 m l (m.ss.getD j default).lo i u) from rfl)) ?_
   refine dp 23 rfl (K.assign) ?_
   refine dd ?_
   refine R.out ?_
   refine R.dA ?_
   refine R.seq ?_
   refine R.gA rfl ?_
   refine qm ?_
   refine qp (K.geq rfl rfl) ?_
   refine K.lA ?_
   refine R.out ?_
   refine R.dA ?_
   refine R.cond rfl (fun ht62 => ?_) (fun ht62 => ?_)
   ·try replace ht62 := Kq.oT ht62
    have hdv := div_bd (a := more2 m l (m.ss.getD j default).lo i u) (A := 21600) (b := u.2.1) (by omega) (by omega)
    refine R.nB [7] uA rfl ?_
    refine dm 0 rfl (K.fA one_3 rfl (K.m3) rfl) ?_
    refine dp 1 rfl (K.move) ?_
    refine dp 2 rfl (K.aA fo_141_1 rfl) ?_
    refine dm 3 rfl (K.fA one_3 rfl (K.m0) rfl) ?_
    refine dp 4 rfl (K.quo_i64 rfl rfl (by omega) (by omega) (by omega)) ?_
    refine dp 5 rfl (K.tA rfl rfl (by omega)) ?_
    refine dp 6 rfl (K.max_int rfl rfl) ?_
    refine K.eC 7 rfl (K.store sz_3 rfl rfl rfl rfl (K.rp3)) rfl (by kernel_rfl) rfl ?_
    intro _ _
    refine zN ?_
    refine dd ?_
    refine R.out ?_
    refine R.kA ?_
    have e1 : needAK m l i j (needK m l i j) (k + 1) = max (needAK m l i j (needK m l i j) k) (more2 m l (m.ss.getD j default).lo i u / u.2.1 + 1) := by rw [need_next hu, needE, if_pos ht62]
    exact R.rp_normal (L := [K.blk b9 62 [.int .i64 (m.ss.getD j default).x, .int .i64 (m.ss.getD j default).y, .int .i64 (m.ss.getD j default).lo, .int .i64 (m.ss.getD j default).hi], K.blk b7 3 [.int .i64 (hgS m i)], K.blk b6 3 [.int .i64 (max (needAK m l i j (needK m l i j) k) (more2 m l (m.ss.getD j default).lo i u / u.2.1 + 1))], K.blk b4 105 (ln l), K.blk b3 98 [.pointer (some ⟨b, 0, none⟩)], R.dfs bs]) (by rw [e1]) (by repeat (first | exact List.Sublist.refl _ | apply List.Sublist.cons))
   try replace ht62 := Kq.oF ht62
   refine R.skip ?_
   refine R.kA ?_
   have e1 : needAK m l i j (needK m l i j) (k + 1) = needAK m l i j (needK m l i j) k := by rw [need_next hu, needE, if_neg ht62]; omega
   exact R.rp_normal (L := [K.blk b9 62 [.int .i64 (m.ss.getD j default).x, .int .i64 (m.ss.getD j default).y, .int .i64 (m.ss.getD j default).lo, .int .i64 (m.ss.getD j default).hi], K.blk b7 3 [.int .i64 (hgS m i)], K.blk b6 3 [.int .i64 (needAK m l i j (needK m l i j) k)], K.blk b4 105 (ln l), K.blk b3 98 [.pointer (some ⟨b, 0, none⟩)], R.dfs bs]) (by rw [e1]) (by repeat (first | exact List.Sublist.refl _ | apply List.Sublist.cons))
  ·intro bD L hJ
   subst hJ
   rw [need_all]
   try dsimp only [List.cons_append, List.nil_append]
   refine zY ?_
   refine R.markJ (L := [K.blk b7 3 [.int .i64 (hgS m i)], K.blk b6 3 [.int .i64 (needA m l i j (needK m l i j))], K.blk b4 105 (ln l), K.blk b3 98 [.pointer (some ⟨b, 0, none⟩)]]) (K.st_sub (Kq.s1 (Kq.sc (Kq.sc (Kq.sc (Kq.sc (Kq.sc (Kq.s1 (Kq.s1 (Kq.s1 (Kq.sc Kq.s0))))))))))) ?_
   try dsimp only [List.cons_append, List.nil_append]
   refine zN ?_
   refine R.kA ?_
   refine R.kA ?_
   refine R.dA ?_
   refine R.gA rfl ?_
   refine qp (K.tA rfl rfl (by omega)) ?_
   refine qm ?_
   refine K.lA ?_
   refine R.out ?_
   exact R.round_endD (L'' := [K.blk b7 3 [.int .i64 (hgS m i)], K.blk b6 3 [.int .i64 (needK m l i (j + 1))], K.blk b4 105 (ln l), K.blk b3 98 [.pointer (some ⟨b, 0, none⟩)]]) [.int .i64 ((j : Int) + 1)] ⟨j + 1, rfl, rfl, by omega⟩ (by simp [K.nth, intOf]; omega) (by repeat (first | exact List.Sublist.refl _ | apply List.Sublist.cons)) (by kernel_rfl)
  ·intro bD cX L hJ
   exact hJ.elim
   skip
 try replace ht27 := Kq.oF ht27
 refine R.exit ?_
 refine R.pA (R.pA (R.zA (R.dA ?_)))
 refine R.seq ?_
 refine R.gA rfl ?_
 refine ql (K.fA one_3 rfl (K.m1) rfl) ?_
 refine qt (K.store sz_3 rfl rfl rfl rfl (K.rp1)) ?_
 refine K.lA ?_
 refine R.out ?_
 refine R.dA ?_
 refine R.ret ?_
 refine R.end_retD rfl (by dsimp only [List.dropLast]; exact (fun w hw => K.res_c rfl rfl (K.tB one_3 rfl (K.m1) w hw))) ?_
 dsimp only [List.dropLast]
 have e0 : j = m.ss.length := by omega
 exact K.xA rfl (by rw [e0]; rfl)

end Go.Proofs.YtnhhfkgldoeifaaGreatDoor.Pn
end
section
namespace Go.Proofs.YtnhhfkgldoeifaaGreatDoor.Pn
open Go.RowKit Go
open Go.K (setd setn ev nth over cl eI eP eT setM setF)
attribute [local irreducible] K.blk K.row
theorem bs0 : K.Bs Tryz.prog 26 0 [] 3 [] := fun w => by kernel_rfl
theorem key98 : Tryz.prog.keyTypeAt 10 105 = true := by kernel_rfl
theorem guard98 : Tryz.prog.eqGuardType Tryz.prog.depth 105 = false := by kernel_rfl
theorem form98 (xs : List Int) : (Value.agg (ln xs).toArray).formed Tryz.prog 105 = true := by kernel_rfl
theorem ul3 : Tryz.prog.underlying 3 = some (.int .i64) := by kernel_rfl
theorem ul98 : Tryz.prog.underlying 105 = some (.array 6 3) := by kernel_rfl
theorem co3 : Tryz.prog.cellsOf 3 = 1 := by kernel_rfl
theorem co98 : Tryz.prog.cellsOf 105 = 6 := by kernel_rfl
def lit6 (xs : List Int) : List Lit := [.int .i64 (xs.getD 0 default), .int .i64 (xs.getD 1 default), .int .i64 (xs.getD 2 default), .int .i64 (xs.getD 3 default), .int .i64 (xs.getD 4 default), .int .i64 (xs.getD 5 default)]
theorem lits98 {xs : List Int} (h : ∀ i, -1000000 ≤ xs.getD i default ∧ xs.getD i default ≤ 1000000) : Tryz.prog.keyLits 5 105 (Value.agg (ln xs).toArray).cells.toList = some (lit6 xs) := by
 have w : ∀ i, (Lit.int .i64 (xs.getD i default)).wf = true := fun i => WalkArith.wf_i64 (by have := h i; omega)
 have e : (Value.agg (ln xs).toArray).cells.toList = ln xs := rfl
 rw [e]
 unfold Program.keyLits
 rw [ul98]
 have e2 : List.range 6 = [0, 1, 2, 3, 4, 5] := rfl
 have e3 : ∀ i, i < 6 → ((ln xs).drop (i * 1)).take 1 = [.int .i64 (xs.getD i default)] := fun i hi => by
  have : i = 0 ∨ i = 1 ∨ i = 2 ∨ i = 3 ∨ i = 4 ∨ i = 5 := by omega
  rcases this with h | h | h | h | h | h <;> subst h <;> rfl
 have el : (ln xs).length = 6 := rfl
 simp only [co98, co3, el, if_true, e2, List.mapM_cons, List.mapM_nil, e3 0 (by omega), e3 1 (by omega), e3 2 (by omega), e3 3 (by omega), e3 4 (by omega), e3 5 (by omega), K.keyLits_i64 ul3 (w _)]
 rfl
theorem lit6_inj {a b : List Int} (ha : a.length = 6) (hb : b.length = 6) : lit6 a = lit6 b ↔ a = b := by
 constructor
 ·intro h
  simp only [lit6, List.cons.injEq, Lit.int.injEq, true_and, and_true] at h
  obtain ⟨h0, h1, h2, h3, h4, h5⟩ := h
  refine ext6 ha hb (fun i hi => ?_)
  have : i = 0 ∨ i = 1 ∨ i = 2 ∨ i = 3 ∨ i = 4 ∨ i = 5 := by omega
  rcases this with h | h | h | h | h | h <;> subst h <;> assumption
 ·rintro rfl; rfl
theorem nx_bd {m : Mod} {l : List Int} (g : Good m) (hl : LB l) {k : Nat} (hk : k ≤ m.ps.length) (i : Nat) : 0 ≤ (nxK m l k).getD i default ∧ (nxK m l k).getD i default ≤ 21601 := by
 have h1 := hl i
 rcases Nat.lt_or_ge i 6 with hi | hi
 ·rw [nx_at hi]
  split
  ·have h2 := needK_bd g hl (i := i) (by omega) (Nat.le_refl m.ss.length)
   have h3 : needS m l i = needK m l i m.ss.length := rfl
   omega
  ·omega
 ·rw [nx_out (by omega)]; omega

set_option maxRecDepth 100000 in
set_option maxHeartbeats 2000000 in
theorem c75 {m : Mod} {A B C : Option Addr} {c d e : Nat} {b : Nat} {w : World} (hM : K.PtrL w [] ⟨b, 0, none⟩ (mdl m A B C c d e)) (hMb : b < w.heap.size) (hP : K.Rd w B 5 eN m.ps) (hS : K.Rd w C 4 eS m.ss) (g : Good m) :
  Calls Tryz.prog 78 [.pointer (some ⟨b, 0, none⟩)].toArray w (K.Gives (.tuple #[.agg (ln (roundsS m).1).toArray, .int .i64 (roundsS m).2.1, .int .i64 (roundsS m).2.2]) w) := by
 have hgn := g.n
 refine K.enter (args := [.pointer (some ⟨b, 0, none⟩)]) Tryz.func78 rfl (n := 64) rfl ?_
 refine zR ?_
 refine sr ?_
 refine qn (K.alloc zr_105) fun b2 => ?_
 iterate 2 refine qa ?_
 refine sn ?_
 refine K.scope ?_
 refine sr (qm ?_)
 refine qp (K.nilCheck rfl) ?_
 refine qp (K.aA fo_108_1 rfl) ?_
 refine ql (K.uB pC rfl (K.PtrL.lit (hM.any) (k := 5)) rfl) ?_
 refine qt (K.vA sz_105 rfl rfl rfl rfl (K.rp0)) ?_
 refine sn (K.seq ?_)
 refine K.label ?_
 refine K.dA (K.seq (K.block ?_))
 refine K.loopW [3] [4, 5, 6, 7, 8, 9, 14, 15, 16, 17, 18, 19, 20, 21, 22, 23, 24, 25, 26, 27, 28, 29, 30, 31, 32, 33, 34, 35, 36, 37, 38, 39, 40, 41, 42, 43, 44, 45, 46, 47, 48, 49, 50, 51, 52, 53, 54, 55, 56, 57, 58, 59, 60, 61, 62, 63] (fun vi L => ∃ (l : List Int) (r : Nat), vi = [.int .i64 (r : Int)] ∧ L = [K.blk b2 105 (ln l)] ∧ l.length = 6 ∧ LB l ∧ (r : Int) ≤ l.sum ∧ rndS m (1801 - r) l (r : Int) = roundsS m) (fun vi => 1801 - (intOf (K.nth vi 0)).toNat) ?_ ?_
 ·exact ⟨own6 m, 0, rfl, by rw [own6_ln]; rfl, own6_len, own6_lb g, (lb_sum (own6_lb g) own6_len).1, rfl⟩
 intro vi vr L hJ
 obtain ⟨l, r, rfl, rfl, h6, hlb, hr, hrn⟩ := hJ
 have hsum := lb_sum hlb h6
 refine zY ?_
 refine K.block (sr (qm ?_))
 refine qp (K.tA rfl rfl (by omega)) ?_
 refine qa ?_
 refine sn (sr (ql (K.jA pC rfl (K.m0) rfl) ?_))
 refine qn (K.alloc zr_105) fun b5 => ?_
 refine qt (K.vA sz_105 rfl rfl rfl rfl (K.rp0)) ?_
 refine sn (sr (qm ?_))
 refine K.mA (K.mkFunc) rfl ?_
 refine zN ?_
 refine qa ?_
 refine sn (K.seq (sr (qm ?_)))
 refine qp (K.nilCheck rfl) ?_
 refine qp (K.aA fo_108_0 rfl) ?_
 refine qp (K.aA bC rfl) ?_
 refine ql (K.mB lC rfl (hM.any) rfl) ?_
 refine qp (K.aB oC rfl) ?_
 refine qm ?_
 refine sn (K.block ?_)
 refine K.loopW [25] [7, 26, 27, 28, 29, 30, 31, 32, 33, 34, 35, 36, 37, 38] (fun vi L => ∃ k : Nat, vi = [.int .i64 (k : Int)] ∧ L = [K.blk b5 105 (ln (nxK m l k)), K.blk b2 105 (ln l)] ∧ k ≤ m.ps.length) (fun vi => m.ps.length - (intOf (K.nth vi 0)).toNat) ?_ ?_
 ·exact ⟨0, rfl, by rw [nx_0]; rfl, Nat.zero_le _⟩
 intro vi vr L hJ
 obtain ⟨k, rfl, rfl, hkn⟩ := hJ
 refine zY ?_
 refine sr (qp (K.lss rfl rfl) ?_)
 refine sn (K.seq ?_)
 refine K.cond rfl (fun ht26 => ?_) (fun ht26 => ?_)
 ·try replace ht26 := Kq.oT ht26
  have hk : k < m.ps.length := by omega
  have hnb := nx_bd g hlb hkn k
  have hnd := needK_bd g hlb (i := k) hk (Nat.le_refl m.ss.length)
  have hns : needS m l k = needK m l k m.ss.length := rfl
  refine K.skip (K.dA (K.seq (K.block (sr (qm ?_)))))
  refine qa ?_
  refine sn ?_
  refine K.nB [10] uA ?_
  refine dp 0 rfl (K.move) ?_
  refine dp 1 rfl (K.move) ?_
  refine dp 2 rfl (K.iB ar_105 rfl rfl (by omega) (by omega)) ?_
  refine dm 3 rfl (K.mB one_3 rfl (K.PtrL.own' ((K.m0))) (ln_at' (l := nxK m l k) (by omega))) ?_
  refine dp 4 rfl (K.move) ?_
  refine dm 5 rfl (K.jA pC rfl (K.m1) rfl) ?_
  refine dp 6 rfl (K.move) ?_
  refine K.kB 7 rfl (K.callv_g (first := [.pointer (some ⟨b, 0, none⟩)]) (cap := []) rfl cal_102 (fun F w hF hw => c102 (hM.into hMb hw) (K.lt_into hMb hw) (hP.pass hw) (hS.pass hw) g hlb hk)) (fun _ h => h) (by kernel_rfl) rfl ?_
  refine zN ?_
  refine dp 8 rfl (K.max_int rfl rfl) ?_
  refine dp 9 rfl (K.iB ar_105 rfl rfl (by omega) (by omega)) ?_
  refine K.eC 10 rfl (K.store_ix sz_3 rfl rfl (by show 0 + ((k : Int)).toNat * 1 + 1 ≤ 6; omega) rfl (K.rp0)) rfl (by kernel_rfl) rfl ?_
  intro _ _
  refine zN ?_
  rw [show 0 + ((k : Int)).toNat * 1 = k by omega, ln_set (by omega) nx_len, nx_set (by omega)]
  refine zN ?_
  refine dd (K.kA (K.dA (K.gA (qp (K.tA rfl rfl (by omega)) ?_))))
  refine qm ?_
  refine K.lA ?_
  exact K.rA (L'' := [K.blk b5 105 (ln (nxK m l (k + 1))), K.blk b2 105 (ln l)]) [.int .i64 ((k : Int) + 1)] ⟨k + 1, rfl, rfl, by omega⟩ (by simp [K.nth, intOf]; omega) (by repeat (first | exact List.Sublist.refl _ | apply List.Sublist.cons)) (by kernel_rfl)
 try replace ht26 := Kq.oF ht26
 refine K.exit (K.pA (K.pA (K.zA (K.dA (K.seq (K.seq ?_))))))
 have e0 : k = m.ps.length := by omega
 subst e0
 have en : nxK m l m.ps.length = nextS m l := rfl
 rw [en]
 refine K.gA (qm ?_)
 refine qp (K.nilCheck rfl) ?_
 refine qp (K.aA fo_108_0 rfl) ?_
 refine qp (K.aA bC rfl) ?_
 refine ql (K.mB lC rfl (hM.any) rfl) ?_
 refine qp (K.aB oC rfl) ?_
 refine qm ?_
 refine sn (K.block ?_)
 refine K.loopW [3, 45] [4, 8, 9, 46, 47, 48, 49, 50, 51, 52, 53, 54, 55, 56, 57, 58, 59] (fun vi L => ∃ j : Nat, vi = [.int .i64 ((r : Int) + 1), .int .i64 (j : Int)] ∧ L = [K.blk b5 105 (ln (nextS m l)), K.blk b2 105 (ln l)] ∧ j ≤ m.ps.length ∧ ∀ i, i < j → ¬ (nextS m l).getD i default > (m.ps.getD i default).most) (fun vi => m.ps.length - (intOf (K.nth vi 1)).toNat) ?_ ?_
 ·exact ⟨0, rfl, rfl, Nat.zero_le _, fun j hj => absurd hj (Nat.not_lt_zero j)⟩
 intro vi vr L hJ
 obtain ⟨j, rfl, rfl, hjn, hall⟩ := hJ
 refine zY ?_
 refine sr (qp (K.lss rfl rfl) ?_)
 refine sn (K.seq ?_)
 refine K.cond rfl (fun ht46 => ?_) (fun ht46 => ?_)
 ·try replace ht46 := Kq.oT ht46
  have hj : j < m.ps.length := by omega
  refine K.skip (K.dA (K.seq (K.block (sr (qm ?_)))))
  refine K.vB (M := []) _ hP.sl oC rfl rfl rfl (by omega) rfl ?_
  intro p48 hp48
  refine zN ?_
  refine ql (K.uB ag_48 rfl (hp48.any) rfl) ?_
  refine qn (K.alloc zr_48) fun b9 => ?_
  refine qa ?_
  refine qt (K.vA sz_48 rfl rfl rfl rfl (K.rp0)) ?_
  refine sn (K.seq ?_)
  refine K.nB [] uA ?_
  refine dp 0 rfl (K.move) ?_
  refine dp 1 rfl (K.iB ar_105 rfl rfl (by omega) (by omega)) ?_
  refine dm 2 rfl (K.mB one_3 rfl (K.PtrL.own' ((K.m1))) (ln_at' (l := nextS m l) (by omega))) ?_
  refine dp 3 rfl (K.aA fo_48_4 rfl) ?_
  refine dm 4 rfl (K.fA one_3 rfl (K.m0) rfl) ?_
  refine dp 5 rfl (K.gtr rfl rfl) ?_
  refine dd (K.dA ?_)
  refine K.cond rfl (fun ht55 => ?_) (fun ht55 => ?_)
  ·try replace ht55 := Kq.oT ht55
   refine sr (ql (K.jA pC rfl (K.m2) rfl) ?_)
   iterate 2 refine qm ?_
   refine qt (K.vA sz_105 rfl rfl rfl rfl (K.rp2)) ?_
   iterate 2 refine qa ?_
   refine sn (K.ret (K.qA (K.iA (K.iA (K.qA (K.iA (K.qA (K.iA (K.qA (K.iA ?_))))))))))
   refine R.ng_ret ?_
   refine K.wA (fun w hw => K.res_ctt rfl rfl (K.run_cellA pC rfl (K.m2) rfl w hw)) ?_
   have ht := too_some hj hall ht55
   exact K.gives (by rw [← hrn, show 1801 - r = (1800 - r) + 1 by omega, rnd_some ht]; rfl)
  try replace ht55 := Kq.oF ht55
  refine K.skip (K.kA (K.dA (K.gA (qp (K.tA rfl rfl (by omega)) ?_))))
  refine qm ?_
  refine K.lA ?_
  exact K.rA (L'' := [K.blk b5 105 (ln (nextS m l)), K.blk b2 105 (ln l)]) [.int .i64 ((r : Int) + 1), .int .i64 ((j : Int) + 1)] ⟨j + 1, rfl, rfl, by omega, K.fB hall ht55⟩ (by simp [K.nth, intOf]; omega) (by repeat (first | exact List.Sublist.refl _ | apply List.Sublist.cons)) (by kernel_rfl)
 try replace ht46 := Kq.oF ht46
 have hno : tooF m (nextS m l) = none := too_none.2 (fun i hi => hall i (by omega))
 refine K.exit (K.pA (K.pA (K.zA (K.dA (K.seq (sr (ql (K.jA pC rfl (K.m0) rfl) ?_)))))))
 refine ql (K.jA pC rfl (K.m1) rfl) ?_
 refine qp (K.eql_key (m := 5) (a := .agg (ln (nextS m l)).toArray) (b := .agg (ln l).toArray) key98 guard98 rfl rfl (form98 _) (form98 _) (lits98 (fun i => by have := nx_bd g hlb (Nat.le_refl _) i; unfold nextS; omega)) (lits98 (fun i => by have := hlb i; omega)) ⟨_, _, rfl, rfl⟩ (decide (nextS m l = l)) (by rw [decide_eq_true_iff, lit6_inj (show (nextS m l).length = 6 from nx_len) h6])) ?_
 refine sn ?_
 refine K.cond rfl (fun ht62 => ?_) (fun ht62 => ?_)
 ·try replace ht62 := Kq.oT ht62
  refine K.exit (K.pA ?_)
  refine K.exit_out rfl ?_
  refine K.pA (K.zA (K.dA (sr (ql (K.jA pC rfl (K.m1) rfl) ?_))))
  refine qt (K.vA sz_105 rfl rfl rfl rfl (K.rp1)) ?_
  iterate 2 refine qa ?_
  refine sn (K.ret ?_)
  refine R.ng_ret ?_
  refine K.wA (fun w hw => K.res_ctt rfl rfl (K.run_cellA pC rfl (K.m1) rfl w hw)) ?_
  exact K.gives (by rw [← hrn, show 1801 - r = (1800 - r) + 1 by omega, rnd_end hno ht62]; rfl)
 try replace ht62 := Kq.oF ht62
 refine K.skip (K.dA (K.gA (ql (K.jA pC rfl (K.m0) rfl) ?_)))
 refine qt (K.vA sz_105 rfl rfl rfl rfl (K.rp1)) ?_
 refine K.lA (K.kA ?_)
 have hsm := next_sum h6 ht62
 have hlt : 1801 - (r + 1) < 1801 - r := by omega
 exact K.rA (L'' := [K.blk b2 105 (ln (nextS m l))]) [.int .i64 ((r : Int) + 1)] ⟨nextS m l, r + 1, rfl, rfl, nx_len, next_lb g hlb hno, by omega, by
  rw [← hrn, show 1801 - r = (1801 - (r + 1)) + 1 by omega, rnd_next hno ht62]; rfl⟩ (by simp [K.nth, intOf]; omega) (by repeat (first | exact List.Sublist.refl _ | apply List.Sublist.cons)) (by kernel_rfl)

set_option maxRecDepth 100000 in
theorem c76 {Q : Option Addr} {q : Nat} {xs : List Int} {w : World} (hL : K.Rd w Q 1 K.eI xs) (hx : xs.length ≤ 1000000) :
  Calls Tryz.prog 79 [.slice Q xs.length q].toArray w (K.RetS 3 1 K.eI xs w) := by
 refine K.enter (args := [.slice Q xs.length q]) Tryz.func79 rfl (n := 7) rfl ?_
 refine zR ?_
 refine sr (qa ?_)
 refine sn (K.seq (sr (qm ?_)))
 refine qp (K.eql_slnil yB rfl) ?_
 refine sn ?_
 refine K.cond rfl (fun ht4 => ?_) (fun ht4 => ?_)
 ·try replace ht4 := Kq.oT ht4
  refine sr (qa ?_)
  refine sn (K.ret (K.iA (et ?_)))
  have hx0 : xs = [] := by
   cases Q with
   | none => exact hL.isNil
   | some a => cases ht4
  exact K.rets_s0 hx0 rfl
 try replace ht4 := Kq.oF ht4
 refine K.skip (K.dA (sr ?_))
 refine qn (K.buildSlice (bs0)) fun b5 => ?_
 refine qm ?_
 refine K.blk_row0 (size := 1) ?_
 refine K.xB (K.appendS el_26 rfl rfl hL.sl (fun _ => rfl) (K.oneI _) (by omega) (by omega) (fun _ _ => K.rp0)) rfl ?_
 rintro ⟨A7, c7⟩ _
 refine zN ?_
 refine qa ?_
 refine sn (K.ret (et ?_))
 exact K.rets_s K.m0 (by rw [Nat.zero_add]) (by rw [List.nil_append]) (by rw [Nat.zero_add]; rfl)

end Go.Proofs.YtnhhfkgldoeifaaGreatDoor.Pn
end
section
namespace Go.Proofs.YtnhhfkgldoeifaaGreatDoor.Pn
open Go.RowKit Go
open Go.K (setd setn ev nth over cl eI eP eT setM setF)
attribute [local irreducible] K.blk K.row

set_option maxRecDepth 100000 in
theorem e26 {m : Mod} {A B C : Option Addr} {c d e : Nat} {w : World} (hH : K.Rd w A 1 K.eI m.hs) (hP : K.Rd w B 5 eN m.ps) (hS : K.Rd w C 4 eS m.ss) (hn : m.hs.length ≤ 4611686018427387904) (hm : m.ps.length ≤ 4611686018427387904) (hk : m.ss.length ≤ 4611686018427387904) (hcd : m.ps.length ≤ d) (hc : (chk m).2.2 ≠ 0) :
  Calls Tryz.prog 40 [.agg #[.int .i64 m.W, .int .i64 m.D, .slice A m.hs.length c, .slice B m.ps.length d, .slice C m.ss.length e]].toArray w (K.RetSE 3 1 K.eI (lngL m) (lngE m) w) := by
 have he : lngE m = (chk m).2.2 := by unfold lngE; rw [if_pos hc]
 have hne : lngE m ≠ 0 := by omega
 have hl0 : lngL m = [] := by unfold lngL; rw [if_neg hne]
 
 refine K.enter (args := [.agg #[.int .i64 m.W, .int .i64 m.D, .slice A m.hs.length c, .slice B m.ps.length d, .slice C m.ss.length e]]) Tryz.func40 rfl (n := 29) rfl ?_
 refine zR ?_
 refine sr ?_
 refine qn (K.box) fun b1 => ?_
 iterate 2 refine qa ?_
 refine sn (sr (ql (K.jA cC rfl (K.m0) rfl) ?_))
 refine qc (K.nA cal_48 (fun F w hF hw => e67 (hH.pass hw) (hP.pass hw) (hS.pass hw) hn hm hk hcd hc)) ?_
 refine qm ?_
 iterate 2 refine qx ?_
 iterate 2 refine qa ?_
 refine sn (K.seq (sr (qm ?_)))
 refine qp (K.neq rfl rfl) ?_
 refine sn (K.yA (by exact congrArg Value.bool (decide_eq_true hc)) ?_)
 refine sr (qm ?_)
 iterate 2 refine qa ?_
 refine sn (K.ret (K.iA ?_))
 refine K.wA (fun w _ => K.qB rfl w) ?_
 exact K.rets_se0 hl0 he.symm rfl

set_option maxRecDepth 100000 in
theorem g26 {m : Mod} {A B C : Option Addr} {c d e : Nat} {w : World} (hH : K.Rd w A 1 K.eI m.hs) (hP : K.Rd w B 5 eN m.ps) (hS : K.Rd w C 4 eS m.ss) (hn : m.hs.length ≤ 4611686018427387904) (hm : m.ps.length ≤ 4611686018427387904) (hk : m.ss.length ≤ 4611686018427387904) (hcd : m.ps.length ≤ d) (hc : (chk m).2.2 = 0) :
  Calls Tryz.prog 40 [.agg #[.int .i64 m.W, .int .i64 m.D, .slice A m.hs.length c, .slice B m.ps.length d, .slice C m.ss.length e]].toArray w (K.RetSE 3 1 K.eI (lngL m) (lngE m) w) := by
 have g : Good m := chk_good hc
 have hgn := g.n
 have htl : ((roundsS m).1.take m.ps.length).length = m.ps.length := by rw [List.length_take, rounds_len]; omega
 refine K.enter (args := [.agg #[.int .i64 m.W, .int .i64 m.D, .slice A m.hs.length c, .slice B m.ps.length d, .slice C m.ss.length e]]) Tryz.func40 rfl (n := 29) rfl ?_
 refine zR ?_
 refine sr ?_
 refine qn (K.box) fun b1 => ?_
 iterate 2 refine qa ?_
 refine sn (sr (ql (K.jA cC rfl (K.m0) rfl) ?_))
 refine K.gB (K.lB cal_48 (fun F w hF hw => g67 (hH.pass hw) (hP.pass hw) (hS.pass hw) hn hm hk hcd (chk_e0 hc))) rfl ?_
 rintro q _
 refine zN ?_
 refine qm ?_
 iterate 2 refine qx ?_
 iterate 2 refine qa ?_
 refine sn (K.seq (sr (qm ?_)))
 refine qp (K.neq rfl rfl) ?_
 refine sn (K.oA (by rfl) ?_)
 refine K.skip (K.dA (sr (qm ?_)))
 refine qc (K.nA cal_78 (fun F w hF hw => c75 (K.PtrL.now hw (hF _ (K.m0))) (K.blk_lt hw (hF _ (K.m0))) (hP.pass hw) (hS.pass hw) g)) ?_
 refine qm ?_
 iterate 3 refine qx ?_
 refine qn (K.alloc zr_105) fun b6 => ?_
 refine qt (K.vA sz_105 rfl rfl rfl rfl (K.rp0)) ?_
 iterate 2 refine qa ?_
 refine sn (K.seq (sr (qm ?_)))
 refine qp (K.neq rfl rfl) ?_
 refine sn ?_
 refine K.cond rfl (fun ht24 => ?_) (fun ht24 => ?_)
 ·try replace ht24 := Kq.oT ht24
  refine sr ?_
  iterate 2 refine qa ?_
  refine sn (K.ret (K.iA ?_))
  refine K.wA (fun w _ => K.qB rfl w) ?_
  have he : lngE m = 9 := by unfold lngE; rw [if_neg (by omega), if_pos ht24]
  have hne : lngE m ≠ 0 := by omega
  have hl0 : lngL m = [] := by unfold lngL; rw [if_neg hne]
  exact K.rets_se0 hl0 he.symm rfl
 try replace ht24 := Kq.oF ht24
 refine K.skip (K.dA (sr (qp (K.aA bC rfl) ?_)))
 refine ql (K.fA lC rfl (K.m2) rfl) ?_
 refine qp (K.aB oC rfl) ?_
 refine K.mA (K.Pure.eq (K.slice_ar m.ps.length ar_105 rfl rfl rfl (by omega)) (show _ = Value.slice (some ⟨b6, 0, none⟩) ((roundsS m).1.take m.ps.length).length 6 from by rw [htl])) rfl ?_
 refine zN ?_
 refine K.gB (K.lB cal_79 (fun F w hF hw => (by have hh := K.Rd.litp (e := K.eI) (xs := ((roundsS m).1.take m.ps.length)) hw (hF _ (K.m0)) (fun _ => rfl) (by decide) (ln_take rounds_len g.n); exact c76 hh (by rw [htl]; omega)))) rfl ?_
 rintro ⟨Q1, q1⟩ hq
 refine zN ?_
 iterate 2 refine qa ?_
 refine sn (K.ret ?_)
 refine K.wA (fun w _ => K.qB rfl w) ?_
 have he : lngE m = 0 := by unfold lngE; rw [if_neg (by omega), if_neg ht24]
 have hl : lngL m = ((roundsS m).1.take m.ps.length) := by unfold lngL; rw [if_pos he]
 rw [hl, he]
 exact K.rets_se K.m0 rfl rfl rfl rfl

theorem c26 {m : Mod} {A B C : Option Addr} {c d e : Nat} {w : World} (hH : K.Rd w A 1 K.eI m.hs) (hP : K.Rd w B 5 eN m.ps) (hS : K.Rd w C 4 eS m.ss) (hn : m.hs.length ≤ 4611686018427387904) (hm : m.ps.length ≤ 4611686018427387904) (hk : m.ss.length ≤ 4611686018427387904) (hcd : m.ps.length ≤ d) : Calls Tryz.prog 40 [.agg #[.int .i64 m.W, .int .i64 m.D, .slice A m.hs.length c, .slice B m.ps.length d, .slice C m.ss.length e]].toArray w (K.RetSE 3 1 K.eI (lngL m) (lngE m) w) := by
 by_cases hc : (chk m).2.2 = 0
 ·exact g26 hH hP hS hn hm hk hcd hc
 ·exact e26 hH hP hS hn hm hk hcd hc


set_option maxRecDepth 100000 in
theorem e28 {m : Mod} {A B C : Option Addr} {c d e : Nat} {w : World} (hH : K.Rd w A 1 K.eI m.hs) (hP : K.Rd w B 5 eN m.ps) (hS : K.Rd w C 4 eS m.ss) (hn : m.hs.length ≤ 4611686018427387904) (hm : m.ps.length ≤ 4611686018427387904) (hk : m.ss.length ≤ 4611686018427387904) (hcd : m.ps.length ≤ d) (hc : (chk m).2.2 ≠ 0) :
  Calls Tryz.prog 41 [.agg #[.int .i64 m.W, .int .i64 m.D, .slice A m.hs.length c, .slice B m.ps.length d, .slice C m.ss.length e]].toArray w (K.Gives (.tuple #[.int .i64 (stuckS m).1, .int .i64 (stuckS m).2.1, .int .i64 (stuckS m).2.2.1, .int .i64 (stuckS m).2.2.2.1, .int .i64 (stuckS m).2.2.2.2]) w) := by
 refine R.enter (args := [.agg #[.int .i64 m.W, .int .i64 m.D, .slice A m.hs.length c, .slice B m.ps.length d, .slice C m.ss.length e]]) Tryz.func41 rfl (m := 59) rfl ?_
 refine zR ?_
 refine R.seq ?_
 refine R.gA rfl ?_
 refine qn (K.box) fun b1 => ?_
 refine qn (K.alloc zr_3) fun b2 => ?_
 refine qn (K.alloc zr_3) fun b3 => ?_
 refine qn (K.alloc zr_3) fun b4 => ?_
 refine qn (K.alloc zr_3) fun b5 => ?_
 refine qn (K.alloc zr_35) fun b6 => ?_
 refine K.lA ?_
 refine R.out ?_
 refine R.dA ?_
 refine R.seq ?_
 refine R.gA rfl ?_
 refine ql (K.jA cC rfl (K.m5) rfl) ?_
 refine qc (K.nA cal_48 (fun F w hF hw => e67 (hH.pass hw) (hP.pass hw) (hS.pass hw) hn hm hk hcd hc)) ?_
 refine qm ?_
 iterate 2 refine qx ?_
 refine qa ?_
 refine qt (K.store sz_35 rfl rfl rfl rfl (K.rp0)) ?_
 refine K.lA ?_
 refine R.out ?_
 refine R.dA ?_
 refine R.seq ?_
 refine R.seq ?_
 refine R.gA rfl ?_
 refine ql (K.fA one_35 rfl (K.m0) rfl) ?_
 refine qp (K.neq rfl rfl) ?_
 refine K.lA ?_
 refine R.out ?_
 refine R.dA ?_
 refine R.yA (by exact congrArg Value.bool (decide_eq_true hc)) ?_
 refine R.seq ?_
 refine R.draw_take 1 [] uA rfl ?_
 refine K.aC 0 rfl (K.fA one_35 rfl (K.m0) rfl) (fun _ h => K.dC 1 _ h) (by kernel_rfl) (by kernel_rfl) rfl ?_
 refine zN ?_
 refine K.sC 1 rfl (K.store sz_3 rfl rfl rfl rfl (K.rp4)) (fun _ => fun _ h => K.dC 1 _ h) (by kernel_rfl) rfl ?_
 intro _ _
 refine zN ?_
 refine K.sC 2 rfl (K.store sz_3 rfl rfl rfl rfl (K.rp3)) (fun _ => fun _ h => K.dC 1 _ h) (by kernel_rfl) rfl ?_
 intro _ _
 refine zN ?_
 refine K.sC 3 rfl (K.store sz_3 rfl rfl rfl rfl (K.rp2)) (fun _ => fun _ h => K.dC 1 _ h) (by kernel_rfl) rfl ?_
 intro _ _
 refine zN ?_
 refine K.sC 4 rfl (K.store sz_3 rfl rfl rfl rfl (K.rp1)) (fun _ => fun _ h => K.dC 1 _ h) (by kernel_rfl) rfl ?_
 intro _ _
 refine zN ?_
 refine K.sC 5 rfl (K.store sz_35 rfl rfl rfl rfl (K.rp0)) (fun _ => fun _ h => K.dC 1 _ h) (by kernel_rfl) rfl ?_
 intro _ _
 refine zN ?_
 refine dd ?_
 refine R.out ?_
 refine R.dA ?_
 refine R.ret ?_
 refine R.iA ?_
 refine R.wA (fun w hw => K.res_c5 rfl rfl rfl rfl rfl rfl (K.tB one_3 rfl (K.m4) w hw) (K.tB one_3 rfl (K.m3) w hw) (K.tB one_3 rfl (K.m2) w hw) (K.tB one_3 rfl (K.m1) w hw) (K.tB one_35 rfl (K.m0) w hw)) ?_
 exact K.gives (by unfold stuckS; rw [if_pos hc])

set_option maxRecDepth 100000 in
theorem f28 {m : Mod} {A B C : Option Addr} {c d e : Nat} {w : World} (hH : K.Rd w A 1 K.eI m.hs) (hP : K.Rd w B 5 eN m.ps) (hS : K.Rd w C 4 eS m.ss) (hn : m.hs.length ≤ 4611686018427387904) (hm : m.ps.length ≤ 4611686018427387904) (hk : m.ss.length ≤ 4611686018427387904) (hcd : m.ps.length ≤ d) (hc : (chk m).2.2 = 0) (hp : (roundsS m).2.2 = -1) :
  Calls Tryz.prog 41 [.agg #[.int .i64 m.W, .int .i64 m.D, .slice A m.hs.length c, .slice B m.ps.length d, .slice C m.ss.length e]].toArray w (K.Gives (.tuple #[.int .i64 (stuckS m).1, .int .i64 (stuckS m).2.1, .int .i64 (stuckS m).2.2.1, .int .i64 (stuckS m).2.2.2.1, .int .i64 (stuckS m).2.2.2.2]) w) := by
 have g : Good m := chk_good hc
 refine R.enter (args := [.agg #[.int .i64 m.W, .int .i64 m.D, .slice A m.hs.length c, .slice B m.ps.length d, .slice C m.ss.length e]]) Tryz.func41 rfl (m := 59) rfl ?_
 refine zR ?_
 refine R.seq ?_
 refine R.gA rfl ?_
 refine qn (K.box) fun b1 => ?_
 refine qn (K.alloc zr_3) fun b2 => ?_
 refine qn (K.alloc zr_3) fun b3 => ?_
 refine qn (K.alloc zr_3) fun b4 => ?_
 refine qn (K.alloc zr_3) fun b5 => ?_
 refine qn (K.alloc zr_35) fun b6 => ?_
 refine K.lA ?_
 refine R.out ?_
 refine R.dA ?_
 refine R.seq ?_
 refine R.gA rfl ?_
 refine ql (K.jA cC rfl (K.m5) rfl) ?_
 refine K.gB (K.lB cal_48 (fun F w hF hw => g67 (hH.pass hw) (hP.pass hw) (hS.pass hw) hn hm hk hcd (chk_e0 hc))) rfl ?_
 rintro q _
 refine zN ?_
 refine qm ?_
 iterate 2 refine qx ?_
 refine qa ?_
 refine qt (K.store sz_35 rfl rfl rfl rfl (K.rp1)) ?_
 refine K.lA ?_
 refine R.out ?_
 refine R.dA ?_
 refine R.seq ?_
 refine R.seq ?_
 refine R.gA rfl ?_
 refine ql (K.fA one_35 rfl (K.m1) rfl) ?_
 refine qp (K.neq rfl rfl) ?_
 refine K.lA ?_
 refine R.out ?_
 refine R.dA ?_
 refine R.oA (by rfl) ?_
 refine R.skip ?_
 refine R.dA ?_
 refine R.seq ?_
 refine R.gA rfl ?_
 refine qm ?_
 refine qc (K.nA cal_78 (fun F w hF hw => c75 (K.PtrL.now hw (hF _ (K.m0))) (K.blk_lt hw (hF _ (K.m0))) (hP.pass hw) (hS.pass hw) g)) ?_
 refine qm ?_
 iterate 3 refine qx ?_
 refine qn (K.alloc zr_105) fun b8 => ?_
 refine qt (K.vA sz_105 rfl rfl rfl rfl (K.rp0)) ?_
 refine qt (K.store sz_3 rfl rfl rfl rfl (K.rp6)) ?_
 refine qt (K.store sz_3 rfl rfl rfl rfl (K.rp5)) ?_
 refine K.lA ?_
 refine R.out ?_
 refine R.dA ?_
 refine R.seq ?_
 refine R.seq ?_
 refine R.gA rfl ?_
 refine ql (K.fA one_3 rfl (K.m5) rfl) ?_
 refine qp (K.neq rfl rfl) ?_
 refine K.lA ?_
 refine R.out ?_
 refine R.dA ?_
 refine R.oA (by exact congrArg Value.bool (decide_eq_false (by omega))) ?_
 refine R.skip ?_
 refine R.dA ?_
 refine R.seq ?_
 refine R.gA rfl ?_
 refine qt (K.store sz_3 rfl rfl rfl rfl (K.rp6)) ?_
 refine qt (K.store sz_3 rfl rfl rfl rfl (K.rp5)) ?_
 refine qt (K.store sz_3 rfl rfl rfl rfl (K.rp4)) ?_
 refine qt (K.store sz_3 rfl rfl rfl rfl (K.rp3)) ?_
 refine qt (K.store sz_35 rfl rfl rfl rfl (K.rp2)) ?_
 refine K.lA ?_
 refine R.out ?_
 refine R.dA ?_
 refine R.ret ?_
 refine R.wA (fun w hw => K.res_c5 rfl rfl rfl rfl rfl rfl (K.tB one_3 rfl (K.m6) w hw) (K.tB one_3 rfl (K.m5) w hw) (K.tB one_3 rfl (K.m4) w hw) (K.tB one_3 rfl (K.m3) w hw) (K.tB one_35 rfl (K.m2) w hw)) ?_
 exact K.gives (by unfold stuckS; rw [if_neg (by omega), if_pos hp])

set_option maxRecDepth 100000 in
set_option maxHeartbeats 2000000 in
theorem g28 {m : Mod} {A B C : Option Addr} {c d e : Nat} {p : Nat} {w : World} (hH : K.Rd w A 1 K.eI m.hs) (hP : K.Rd w B 5 eN m.ps) (hS : K.Rd w C 4 eS m.ss) (hn : m.hs.length ≤ 4611686018427387904) (hm : m.ps.length ≤ 4611686018427387904) (hk : m.ss.length ≤ 4611686018427387904) (hcd : m.ps.length ≤ d) (hc : (chk m).2.2 = 0) (hp : (roundsS m).2.2 = (p : Int)) (hpn : p < m.ps.length) :
  Calls Tryz.prog 41 [.agg #[.int .i64 m.W, .int .i64 m.D, .slice A m.hs.length c, .slice B m.ps.length d, .slice C m.ss.length e]].toArray w (K.Gives (.tuple #[.int .i64 (stuckS m).1, .int .i64 (stuckS m).2.1, .int .i64 (stuckS m).2.2.1, .int .i64 (stuckS m).2.2.2.1, .int .i64 (stuckS m).2.2.2.2]) w) := by
 have g : Good m := chk_good hc
 have hgn := g.n
 have hlb := stkL_lb g hpn
 have hpv : pinV (some p) = (p : Int) := rfl
 refine R.enter (args := [.agg #[.int .i64 m.W, .int .i64 m.D, .slice A m.hs.length c, .slice B m.ps.length d, .slice C m.ss.length e]]) Tryz.func41 rfl (m := 59) rfl ?_
 refine zR ?_
 refine R.seq ?_
 refine R.gA rfl ?_
 refine qn (K.box) fun b1 => ?_
 refine qn (K.alloc zr_3) fun b2 => ?_
 refine qn (K.alloc zr_3) fun b3 => ?_
 refine qn (K.alloc zr_3) fun b4 => ?_
 refine qn (K.alloc zr_3) fun b5 => ?_
 refine qn (K.alloc zr_35) fun b6 => ?_
 refine K.lA ?_
 refine R.out ?_
 refine R.dA ?_
 refine R.seq ?_
 refine R.gA rfl ?_
 refine ql (K.jA cC rfl (K.m5) rfl) ?_
 refine K.gB (K.lB cal_48 (fun F w hF hw => g67 (hH.pass hw) (hP.pass hw) (hS.pass hw) hn hm hk hcd (chk_e0 hc))) rfl ?_
 rintro q _
 refine zN ?_
 refine qm ?_
 iterate 2 refine qx ?_
 refine qa ?_
 refine qt (K.store sz_35 rfl rfl rfl rfl (K.rp1)) ?_
 refine K.lA ?_
 refine R.out ?_
 refine R.dA ?_
 refine R.seq ?_
 refine R.seq ?_
 refine R.gA rfl ?_
 refine ql (K.fA one_35 rfl (K.m1) rfl) ?_
 refine qp (K.neq rfl rfl) ?_
 refine K.lA ?_
 refine R.out ?_
 refine R.dA ?_
 refine R.oA (by rfl) ?_
 refine R.skip ?_
 refine R.dA ?_
 refine R.seq ?_
 refine R.gA rfl ?_
 refine qm ?_
 refine qc (K.nA cal_78 (fun F w hF hw => c75 (K.PtrL.now hw (hF _ (K.m0))) (K.blk_lt hw (hF _ (K.m0))) (hP.pass hw) (hS.pass hw) g)) ?_
 refine qm ?_
 iterate 2 refine qx ?_
 refine K.mA (K.extract rfl rfl) rfl ?_
 refine zN ?_
 rw [hp]
 refine zN ?_
 refine qn (K.alloc zr_105) fun b8 => ?_
 refine qt (K.vA sz_105 rfl rfl rfl rfl (K.rp0)) ?_
 refine qt (K.store sz_3 rfl rfl rfl rfl (K.rp6)) ?_
 refine qt (K.store sz_3 rfl rfl rfl rfl (K.rp5)) ?_
 refine K.lA ?_
 refine R.out ?_
 refine R.dA ?_
 refine R.seq ?_
 refine R.seq ?_
 refine R.gA rfl ?_
 refine ql (K.fA one_3 rfl (K.m5) rfl) ?_
 refine qp (K.neq rfl rfl) ?_
 refine K.lA ?_
 refine R.out ?_
 refine R.dA ?_
 refine R.yA (by exact congrArg Value.bool (decide_eq_true (by omega))) ?_
 refine R.seq ?_
 refine R.nB [8] uA rfl ?_
 refine dm 0 rfl (K.fA one_3 rfl (K.m5) rfl) ?_
 refine dp 1 rfl (K.aA bC rfl) ?_
 refine dm 2 rfl (K.fA lC rfl (K.m7) rfl) ?_
 refine dm 3 rfl (K.fA one_3 rfl (K.m5) rfl) ?_
 refine K.d_ix (M := []) 4 _ rfl hP.sl oC rfl rfl rfl (by omega) (by kernel_rfl) rfl ?_
 intro p32 hp32
 refine zN ?_
 refine dp 5 rfl (K.fieldAddr fo_48_4 rfl) ?_
 refine dm 6 rfl (K.load1 one_3 rfl ((K.PtrL.fld hp32 (k := 4)).any)) ?_
 refine dp 7 rfl (K.iB ar_105 rfl rfl (by omega) (by omega)) ?_
 refine K.eC 8 rfl (K.store_ix sz_3 rfl rfl (by show 0 + ((p : Int)).toNat * 1 + 1 ≤ 6; omega) rfl (K.rp0)) rfl (by kernel_rfl) rfl ?_
 intro _ _
 refine zN ?_
 rw [show 0 + ((p : Int)).toNat * 1 = p by omega, ln_set (by omega) rounds_len]
 refine zN ?_
 refine dd ?_
 refine R.out ?_
 refine R.dA ?_
 refine R.seq ?_
 refine R.gA rfl ?_
 refine qp (K.aA fo_30_4 rfl) ?_
 refine ql (K.fA one_28 rfl (K.m7) rfl) ?_
 refine qp (K.aB tC rfl) ?_
 refine qm ?_
 refine K.lA ?_
 refine R.out ?_
 refine R.dA ?_
 refine R.block ?_
 refine R.loopD [39] [9, 10, 11, 40, 41, 42, 43, 44, 45, 46, 47, 48, 49, 50, 51, 52, 53, 55, 56, 57, 58, 59] (fun vi L => ∃ j : Nat, vi = [.int .i64 (j : Int)] ∧ L = [K.blk b8 105 (ln (stkL m p)), K.blk q 108 (mdl m A B C c d e), K.blk b6 35 [.int .i64 0], K.blk b5 3 [.int .i64 0], K.blk b4 3 [.int .i64 0], K.blk b3 3 [.int .i64 (p : Int)], K.blk b2 3 [.int .i64 (roundsS m).2.1], K.blk b1 30 [.int .i64 m.W, .int .i64 m.D, .slice A m.hs.length c, .slice B m.ps.length d, .slice C m.ss.length e]] ∧ j ≤ m.ss.length ∧ ∀ i, i < j → stkB m p i = true) (fun vi => m.ss.length - (intOf (K.nth vi 0)).toNat) ?_ ?_
 ·exact ⟨0, rfl, rfl, Nat.zero_le _, fun j hj => absurd hj (Nat.not_lt_zero j)⟩
 intro vi vr L bs hJ
 obtain ⟨j, rfl, rfl, hjn, hall⟩ := hJ
 try dsimp only [List.cons_append, List.nil_append]
 refine zY ?_
 refine R.seq ?_
 refine R.gA rfl ?_
 refine qp (K.lss rfl rfl) ?_
 refine K.lA ?_
 refine R.out ?_
 refine R.dA ?_
 refine R.seq ?_
 refine R.cond rfl (fun ht40 => ?_) (fun ht40 => ?_)
 ·try replace ht40 := Kq.oT ht40
  have hj : j < m.ss.length := by omega
  have hst := g.st hj
  have hW : Way m (m.ss.getD j default).x (m.ss.getD j default).y p := ⟨g, hpn, by omega, by omega⟩
  refine R.skip ?_
  refine R.dA ?_
  refine R.seq ?_
  refine R.block ?_
  refine R.seq ?_
  refine R.gA rfl ?_
  refine qm ?_
  refine K.vB (M := []) _ hS.sl tC rfl rfl rfl (by omega) rfl ?_
  intro p42 hp42
  refine zN ?_
  refine ql (K.uB ag_62 rfl (hp42.any) rfl) ?_
  refine qn (K.alloc zr_3) fun b9 => ?_
  refine qn (K.alloc zr_62) fun b10 => ?_
  refine qt (K.store sz_3 rfl rfl rfl rfl (K.rp1)) ?_
  refine qt (K.vA sz_62 rfl rfl rfl rfl (K.rp0)) ?_
  refine K.lA ?_
  refine R.out ?_
  refine R.dA ?_
  refine R.seq ?_
  refine R.nB [] uA rfl ?_
  refine dp 0 rfl (K.move) ?_
  refine dm 1 rfl (K.jA pC rfl (K.m2) rfl) ?_
  refine dp 2 rfl (K.move) ?_
  refine dm 3 rfl (K.fA one_3 rfl (K.m1) rfl) ?_
  refine dp 5 rfl (K.aA fo_62_2 rfl) ?_
  refine dp 6 rfl (K.aA fo_46_0 rfl) ?_
  refine dm 7 rfl (K.fA one_3 rfl (K.m0) rfl) ?_
  refine dm 8 rfl (K.fA one_3 rfl (K.m7) rfl) ?_
  refine K.kB 4 rfl (K.nA cal_52 (fun F w hF hw => c64 (K.PtrL.now hw (hF _ (K.m3))) (hS.pass hw) hj)) (fun _ h => h) (by kernel_rfl) rfl ?_
  refine zN ?_
  refine K.d_loud 9 rfl (K.lB cal_74 (fun F w hF hw => c63 (l := (stkL m p)) w)) (fun _ h => h) (by kernel_rfl) rfl ?_
  rintro ⟨q1, q2, q3, q4, q5⟩ _
  refine zN ?_
  refine dd ?_
  refine R.out ?_
  refine R.dA ?_
  refine R.block ?_
  refine R.rangeC (gf := 113) (first := []) (cap := [.pointer (some ⟨q1, 0, none⟩), .pointer (some ⟨q2, 0, none⟩), .pointer (some ⟨q5, 0, none⟩), .pointer (some ⟨q3, 0, none⟩), .pointer (some ⟨q4, 0, none⟩)]) (enc := (fun n : Int => Value.int .i64 n)) (XS := hidesS m (stkL m p) (m.ss.getD j default).x (m.ss.getD j default).y (m.ss.getD j default).lo p) rfl cal_113 [K.blk b6 35 [.int .i64 0], K.blk b5 3 [.int .i64 0], K.blk b4 3 [.int .i64 0], K.blk b10 62 [.int .i64 (m.ss.getD j default).x, .int .i64 (m.ss.getD j default).y, .int .i64 (m.ss.getD j default).lo, .int .i64 (m.ss.getD j default).hi], K.blk b9 3 [.int .i64 (j : Int)], K.blk b8 105 (ln (stkL m p)), K.blk b3 3 [.int .i64 (p : Int)], K.blk b2 3 [.int .i64 (roundsS m).2.1], K.blk b1 30 [.int .i64 m.W, .int .i64 m.D, .slice A m.hs.length c, .slice B m.ps.length d, .slice C m.ss.length e], R.dfs bs] [K.blk q5 3 [.int .i64 (p : Int)], K.blk q4 3 [.int .i64 (m.ss.getD j default).lo], K.blk q3 110 [.int .i64 (m.ss.getD j default).x, .int .i64 (m.ss.getD j default).y], K.blk q2 105 (ln (stkL m p)), K.blk q1 98 [.pointer (some ⟨q, 0, none⟩)], K.blk q 108 (mdl m A B C c d e)] (K.st_perm (show List.Perm [K.blk q5 3 [.int .i64 (p : Int)], K.blk q4 3 [.int .i64 (m.ss.getD j default).lo], K.blk q3 110 [.int .i64 (m.ss.getD j default).x, .int .i64 (m.ss.getD j default).y], K.blk q2 105 (ln (stkL m p)), K.blk q1 98 [.pointer (some ⟨q, 0, none⟩)], K.blk b10 62 [.int .i64 (m.ss.getD j default).x, .int .i64 (m.ss.getD j default).y, .int .i64 (m.ss.getD j default).lo, .int .i64 (m.ss.getD j default).hi], K.blk b9 3 [.int .i64 (j : Int)], K.blk b8 105 (ln (stkL m p)), K.blk q 108 (mdl m A B C c d e), K.blk b6 35 [.int .i64 0], K.blk b5 3 [.int .i64 0], K.blk b4 3 [.int .i64 0], K.blk b3 3 [.int .i64 (p : Int)], K.blk b2 3 [.int .i64 (roundsS m).2.1], K.blk b1 30 [.int .i64 m.W, .int .i64 m.D, .slice A m.hs.length c, .slice B m.ps.length d, .slice C m.ss.length e], R.dfs bs] ([K.blk b6 35 [.int .i64 0], K.blk b5 3 [.int .i64 0], K.blk b4 3 [.int .i64 0], K.blk b10 62 [.int .i64 (m.ss.getD j default).x, .int .i64 (m.ss.getD j default).y, .int .i64 (m.ss.getD j default).lo, .int .i64 (m.ss.getD j default).hi], K.blk b9 3 [.int .i64 (j : Int)], K.blk b8 105 (ln (stkL m p)), K.blk b3 3 [.int .i64 (p : Int)], K.blk b2 3 [.int .i64 (roundsS m).2.1], K.blk b1 30 [.int .i64 m.W, .int .i64 m.D, .slice A m.hs.length c, .slice B m.ps.length d, .slice C m.ss.length e], R.dfs bs] ++ [K.blk q5 3 [.int .i64 (p : Int)], K.blk q4 3 [.int .i64 (m.ss.getD j default).lo], K.blk q3 110 [.int .i64 (m.ss.getD j default).x, .int .i64 (m.ss.getD j default).y], K.blk q2 105 (ln (stkL m p)), K.blk q1 98 [.pointer (some ⟨q, 0, none⟩)], K.blk q 108 (mdl m A B C c d e)]) from (List.Perm.trans (List.perm_middle (l₁ := [_, _, _, _, _, _, _, _, _])) (List.Perm.cons _ (List.Perm.trans (List.perm_middle (l₁ := [_, _, _, _, _, _, _, _, _])) (List.Perm.cons _ (List.Perm.trans (List.perm_middle (l₁ := [_, _, _, _, _, _, _, _, _])) (List.Perm.cons _ (List.Perm.trans (List.perm_middle (l₁ := [_, _, _, _, _])) (List.Perm.cons _ (List.Perm.trans (List.perm_middle (l₁ := [_, _, _, _, _])) (List.Perm.cons _ (List.Perm.trans (List.perm_middle (l₁ := [_, _, _, _, _])) (List.Perm.cons _ (List.Perm.trans (List.perm_middle (l₁ := [_, _, _, _, _, _])) (List.Perm.cons _ (List.Perm.trans (List.perm_middle (l₁ := [_, _, _, _, _, _])) (List.Perm.cons _ (List.Perm.trans (List.perm_middle (l₁ := [_, _, _, _, _, _])) (List.Perm.cons _ (List.Perm.trans (List.perm_middle (l₁ := [_, _, _, _, _, _])) (List.Perm.cons _ Kq.p0)))))))))))))))))))))) (R.fixC (R.fixC (R.fixC (R.fixC (R.fixC (R.fixC R.fixN)))))) (c96 (c := c) (d := d) (e := e) (A := A) (B := B) (C := C) (b := q) hW hlb (by omega)) (fun f w hf => ⟨hf.own1 K.m4, hf.own1 K.m3, hf.own1 K.m0, hf.own1 K.m2, hf.own1 K.m1, hf.own1 K.m5, hP.pass hf.1⟩) (fun k L => k = 0 ∧ L = [K.blk b6 35 [.int .i64 0], K.blk b5 3 [.int .i64 0], K.blk b4 3 [.int .i64 0], K.blk b10 62 [.int .i64 (m.ss.getD j default).x, .int .i64 (m.ss.getD j default).y, .int .i64 (m.ss.getD j default).lo, .int .i64 (m.ss.getD j default).hi], K.blk b9 3 [.int .i64 (j : Int)], K.blk b8 105 (ln (stkL m p)), K.blk b3 3 [.int .i64 (p : Int)], K.blk b2 3 [.int .i64 (roundsS m).2.1], K.blk b1 30 [.int .i64 m.W, .int .i64 m.D, .slice A m.hs.length c, .slice B m.ps.length d, .slice C m.ss.length e], R.dfs bs]) (fun cX L => cX = Code.ret ∧ ∃ u, (hidesS m (stkL m p) (m.ss.getD j default).x (m.ss.getD j default).y (m.ss.getD j default).lo p)[0]? = some u ∧ L = [K.blk b6 35 [.int .i64 0], K.blk b5 3 [.int .i64 u], K.blk b4 3 [.int .i64 (j : Int)], K.blk b10 62 [.int .i64 (m.ss.getD j default).x, .int .i64 (m.ss.getD j default).y, .int .i64 (m.ss.getD j default).lo, .int .i64 (m.ss.getD j default).hi], K.blk b9 3 [.int .i64 (j : Int)], K.blk b8 105 (ln (stkL m p)), K.blk b3 3 [.int .i64 (p : Int)], K.blk b2 3 [.int .i64 (roundsS m).2.1], K.blk b1 30 [.int .i64 m.W, .int .i64 m.D, .slice A m.hs.length c, .slice B m.ps.length d, .slice C m.ss.length e], R.dfs bs]) ?_ ?_ ?_ ?_
  ·exact ⟨rfl, rfl⟩
  ·intro k u L lr E hu hE hJ
   obtain ⟨rfl, rfl⟩ := hJ
   try dsimp only [List.cons_append, List.nil_append]
   refine zY ?_
   refine R.gA rfl ?_
   refine qa ?_
   refine K.lA ?_
   refine R.out ?_
   refine R.dA ?_
   refine R.bodyC' rfl (fun E hE => ?_)
   dsimp only [List.dropLast, List.cons_append, List.nil_append]
   refine zN ?_
   refine R.block ?_
   refine R.seq ?_
   refine R.draw_drop 3 [] uA rfl ?_
   refine K.aC 0 rfl (K.fA one_3 rfl (K.m4) rfl) (fun _ h => K.tl (K.tl (K.tl h))) (by kernel_rfl) (by kernel_rfl) rfl ?_
   refine zN ?_
   refine K.aC 1 rfl (K.fA one_3 rfl (K.m3) rfl) (fun _ h => K.tl (K.tl (K.tl h))) (by kernel_rfl) (by kernel_rfl) rfl ?_
   refine zN ?_
   refine K.aC 2 rfl (K.fA one_3 rfl (K.m1) rfl) (fun _ h => K.tl (K.tl (K.tl h))) (by kernel_rfl) (by kernel_rfl) rfl ?_
   refine zN ?_
   refine dp 3 rfl (K.move) ?_
   refine K.sC 4 rfl (K.store sz_3 rfl rfl rfl rfl (K.rp7)) (fun _ => fun _ h => K.tl (K.tl (K.tl h))) (by kernel_rfl) rfl ?_
   intro _ _
   refine zN ?_
   refine K.sC 5 rfl (K.store sz_3 rfl rfl rfl rfl (K.rp6)) (fun _ => fun _ h => K.tl (K.tl (K.tl h))) (by kernel_rfl) rfl ?_
   intro _ _
   refine zN ?_
   refine K.sC 6 rfl (K.store sz_3 rfl rfl rfl rfl (K.rp2)) (fun _ => fun _ h => K.tl (K.tl (K.tl h))) (by kernel_rfl) rfl ?_
   intro _ _
   refine zN ?_
   refine K.sC 7 rfl (K.store sz_3 rfl rfl rfl rfl (K.rp1)) (fun _ => fun _ h => K.tl (K.tl (K.tl h))) (by kernel_rfl) rfl ?_
   intro _ _
   refine zN ?_
   refine K.sC 8 rfl (K.store sz_35 rfl rfl rfl rfl (K.rp0)) (fun _ => fun _ h => K.tl (K.tl (K.tl h))) (by kernel_rfl) rfl ?_
   intro _ _
   refine zN ?_
   refine dd ?_
   refine R.out ?_
   refine R.dA ?_
   refine R.ret ?_
   refine R.qA ?_
   exact R.rp_ret ⟨rfl, u, hu, rfl⟩ Kq.s0
  ·intro bD L hJ
   obtain ⟨hlen, rfl⟩ := hJ
   have hsb : stkB m p j = true := by unfold stkB seesB; rw [List.eq_nil_of_length_eq_zero hlen]; rfl
   try dsimp only [List.cons_append, List.nil_append]
   refine zY ?_
   refine R.markJ (L := [K.blk b6 35 [.int .i64 0], K.blk b5 3 [.int .i64 0], K.blk b4 3 [.int .i64 0], K.blk b8 105 (ln (stkL m p)), K.blk b3 3 [.int .i64 (p : Int)], K.blk b2 3 [.int .i64 (roundsS m).2.1], K.blk b1 30 [.int .i64 m.W, .int .i64 m.D, .slice A m.hs.length c, .slice B m.ps.length d, .slice C m.ss.length e], K.blk q 108 (mdl m A B C c d e)]) (fun w hw => (hw.sub (Kq.sc (Kq.sc (Kq.sc (Kq.s1 (Kq.s1 (Kq.sc (Kq.sc (Kq.sc (Kq.sc (Kq.sc (Kq.s1 (Kq.s1 (Kq.s1 (Kq.s1 (Kq.s1 (Kq.sc (Kq.sc Kq.s0)))))))))))))))))).perm (List.Perm.cons _ (List.Perm.cons _ (List.Perm.cons _ (List.Perm.cons _ (List.Perm.cons _ (List.Perm.cons _ (List.Perm.cons _ (Kq.pz (Kq.p0)))))))))) ?_
   try dsimp only [List.cons_append, List.nil_append]
   refine zN ?_
   refine R.kA ?_
   refine R.kA ?_
   refine R.dA ?_
   refine R.gA rfl ?_
   refine qp (K.tA rfl rfl (by omega)) ?_
   refine qm ?_
   refine K.lA ?_
   refine R.out ?_
   refine K.permH (L' := [K.blk b8 105 (ln (stkL m p)), K.blk q 108 (mdl m A B C c d e), K.blk b6 35 [.int .i64 0], K.blk b5 3 [.int .i64 0], K.blk b4 3 [.int .i64 0], K.blk b3 3 [.int .i64 (p : Int)], K.blk b2 3 [.int .i64 (roundsS m).2.1], K.blk b1 30 [.int .i64 m.W, .int .i64 m.D, .slice A m.hs.length c, .slice B m.ps.length d, .slice C m.ss.length e]] ++ [R.dfs _]) (List.Perm.trans (List.perm_middle (l₁ := [_, _, _])) (List.Perm.cons _ (List.Perm.trans (List.perm_middle (l₁ := [_, _, _, _, _, _])) (List.Perm.cons _ Kq.p0)))) ?_
   exact R.round_endD (L'' := [K.blk b8 105 (ln (stkL m p)), K.blk q 108 (mdl m A B C c d e), K.blk b6 35 [.int .i64 0], K.blk b5 3 [.int .i64 0], K.blk b4 3 [.int .i64 0], K.blk b3 3 [.int .i64 (p : Int)], K.blk b2 3 [.int .i64 (roundsS m).2.1], K.blk b1 30 [.int .i64 m.W, .int .i64 m.D, .slice A m.hs.length c, .slice B m.ps.length d, .slice C m.ss.length e]]) [.int .i64 ((j : Int) + 1)] ⟨j + 1, rfl, rfl, by omega, K.fB hall hsb⟩ (by simp [K.nth, intOf]; omega) (by repeat (first | exact List.Sublist.refl _ | apply List.Sublist.cons)) (by kernel_rfl)
  ·intro bD cX L hJ
   obtain ⟨rfl, u, hu, rfl⟩ := hJ
   have hsb : stkB m p j = false := by
    unfold stkB seesB
    rw [List.isEmpty_eq_false_iff]
    intro h0
    rw [h0] at hu; simp at hu
   try dsimp only [List.cons_append, List.nil_append]
   refine zY ?_
   refine R.markJ (L := [K.blk b6 35 [.int .i64 0], K.blk b5 3 [.int .i64 u], K.blk b4 3 [.int .i64 (j : Int)], K.blk b8 105 (ln (stkL m p)), K.blk b3 3 [.int .i64 (p : Int)], K.blk b2 3 [.int .i64 (roundsS m).2.1], K.blk b1 30 [.int .i64 m.W, .int .i64 m.D, .slice A m.hs.length c, .slice B m.ps.length d, .slice C m.ss.length e], K.blk q 108 (mdl m A B C c d e)]) (fun w hw => (hw.sub (Kq.sc (Kq.sc (Kq.sc (Kq.s1 (Kq.s1 (Kq.sc (Kq.sc (Kq.sc (Kq.sc (Kq.sc (Kq.s1 (Kq.s1 (Kq.s1 (Kq.s1 (Kq.s1 (Kq.sc (Kq.sc Kq.s0)))))))))))))))))).perm (List.Perm.cons _ (List.Perm.cons _ (List.Perm.cons _ (List.Perm.cons _ (List.Perm.cons _ (List.Perm.cons _ (List.Perm.cons _ (Kq.pz (Kq.p0)))))))))) ?_
   try dsimp only [List.cons_append, List.nil_append]
   refine zN ?_
   refine R.ret ?_
   refine R.qA ?_
   refine R.qA ?_
   refine R.iA (R.iA ?_)
   refine R.qA ?_
   refine R.iA ?_
   refine R.end_retD rfl (by dsimp only [List.dropLast]; exact (fun w hw => K.res_c5 rfl rfl rfl rfl rfl rfl (K.tB one_3 rfl (K.m5) w hw) (K.tB one_3 rfl (K.m4) w hw) (K.tB one_3 rfl (K.m2) w hw) (K.tB one_3 rfl (K.m1) w hw) (K.tB one_35 rfl (K.m0) w hw))) ?_
   dsimp only [List.dropLast]
   have hs1 := stk_some hj hall hsb
   have hhd : (hidesS m (stkL m p) (m.ss.getD j default).x (m.ss.getD j default).y (m.ss.getD j default).lo p).headD 0 = u := by
    cases hx : hidesS m (stkL m p) (m.ss.getD j default).x (m.ss.getD j default).y (m.ss.getD j default).lo p with
    | nil => rw [hx] at hu; simp at hu
    | cons a xs => rw [hx] at hu; simpa using hu
   exact K.gives (by unfold stuckS; rw [if_neg (by omega), if_neg (by omega), hp, Int.toNat_natCast, hs1]; simp only; rw [hhd])
 try replace ht40 := Kq.oF ht40
 refine R.exit ?_
 refine R.pA (R.pA (R.zA (R.dA ?_)))
 refine R.seq ?_
 refine R.gA rfl ?_
 refine qt (K.store sz_3 rfl rfl rfl rfl (K.rp6)) ?_
 refine qt (K.store sz_3 rfl rfl rfl rfl (K.rp5)) ?_
 refine qt (K.store sz_3 rfl rfl rfl rfl (K.rp4)) ?_
 refine qt (K.store sz_3 rfl rfl rfl rfl (K.rp3)) ?_
 refine qt (K.store sz_35 rfl rfl rfl rfl (K.rp2)) ?_
 refine K.lA ?_
 refine R.out ?_
 refine R.dA ?_
 refine R.ret ?_
 refine R.end_retD rfl (by dsimp only [List.dropLast]; exact (fun w hw => K.res_c5 rfl rfl rfl rfl rfl rfl (K.tB one_3 rfl (K.m6) w hw) (K.tB one_3 rfl (K.m5) w hw) (K.tB one_3 rfl (K.m4) w hw) (K.tB one_3 rfl (K.m3) w hw) (K.tB one_35 rfl (K.m2) w hw))) ?_
 dsimp only [List.dropLast]
 have hs0 := stk_none (fun i hi => hall i (by omega))
 exact K.gives (by unfold stuckS; rw [if_neg (by omega), if_neg (by omega), hp, Int.toNat_natCast, hs0])

theorem c28 {m : Mod} {A B C : Option Addr} {c d e : Nat} {w : World} (hH : K.Rd w A 1 K.eI m.hs) (hP : K.Rd w B 5 eN m.ps) (hS : K.Rd w C 4 eS m.ss) (hn : m.hs.length ≤ 4611686018427387904) (hm : m.ps.length ≤ 4611686018427387904) (hk : m.ss.length ≤ 4611686018427387904) (hcd : m.ps.length ≤ d) : Calls Tryz.prog 41 [.agg #[.int .i64 m.W, .int .i64 m.D, .slice A m.hs.length c, .slice B m.ps.length d, .slice C m.ss.length e]].toArray w (K.Gives (.tuple #[.int .i64 (stuckS m).1, .int .i64 (stuckS m).2.1, .int .i64 (stuckS m).2.2.1, .int .i64 (stuckS m).2.2.2.1, .int .i64 (stuckS m).2.2.2.2]) w) := by
 by_cases hc : (chk m).2.2 = 0
 ·rcases rounds_pin (m := m) with hp | ⟨p, hpn, hp⟩
  ·exact f28 hH hP hS hn hm hk hcd hc hp
  ·exact g28 hH hP hS hn hm hk hcd hc hp hpn
 ·exact e28 hH hP hS hn hm hk hcd hc


end Go.Proofs.YtnhhfkgldoeifaaGreatDoor.Pn
end
section
namespace Go.Proofs.YtnhhfkgldoeifaaGreatDoor.Pn
open Go.RowKit Go
open Go.K (setd setn ev nth over cl eI eP eT setM setF)
attribute [local irreducible] K.blk K.row
def uand (a b : Int) : Int := IntKind.u64.wrap (BitVec.ofInt IntKind.u64.bits a &&& BitVec.ofInt IntKind.u64.bits b).toNat
def ushr (a n : Int) : Int := a.fdiv (2 ^ min n.toNat IntKind.u64.bits)
def oc1 (x : Int) : Int := IntKind.u64.wrap (uand (ushr x 1) 6148914691236517205 + uand x 6148914691236517205)
def oc2 (x : Int) : Int := IntKind.u64.wrap (uand (ushr x 2) 3689348814741910323 + uand x 3689348814741910323)
def oc3 (x : Int) : Int := uand (IntKind.u64.wrap (ushr x 4 + x)) 1085102592571150095
def oc4 (n x : Int) : Int := IntKind.u64.wrap (x + ushr x n)
def oc5 (x : Int) : Int := IntKind.i64.wrap (BitVec.ofInt IntKind.i64.bits (IntKind.i64.wrap x) &&& BitVec.ofInt IntKind.i64.bits 127).toNat
theorem oc_all : (List.range 64).all (fun s => decide (oc5 (oc4 32 (oc4 16 (oc4 8 (oc3 (oc2 (oc1 ((s : Nat) : Int))))))) = (((bitsL ((s : Nat) : Int)).length : Nat) : Int))) = true := by decide +kernel
theorem oc_val {x : Int} (hs : 0 ≤ x ∧ x ≤ 63) : oc5 (oc4 32 (oc4 16 (oc4 8 (oc3 (oc2 (oc1 x)))))) = ((bitsL x).length : Int) := by
 obtain ⟨n, rfl⟩ := Int.eq_ofNat_of_zero_le hs.1
 have h := List.all_eq_true.1 oc_all n (List.mem_range.2 (by omega))
 simpa using h

set_option maxRecDepth 100000 in
theorem c104 {x : Int} (hx : 0 ≤ x ∧ x ≤ 63) (w : World) :
  Calls Tryz.prog 118 [.int .u64 x].toArray w (K.Gives (.int .i64 (bitsL x).length) w) := by
 refine K.enter (args := [.int .u64 x]) Tryz.func118 rfl (n := 34) rfl ?_
 refine zR ?_
 refine sr (qa ?_)
 refine sn (sr (qm ?_))
 refine qp (K.shr_int rfl rfl (by decide)) ?_
 refine qp (K.and_int rfl rfl) ?_
 refine qm ?_
 refine qp (K.and_int rfl rfl) ?_
 refine qp (K.Pure.eq (K.add_wrap rfl rfl) (show _ = .int .u64 (oc1 x) from rfl)) ?_
 refine qa ?_
 refine sn (sr (qm ?_))
 refine qp (K.shr_int rfl rfl (by decide)) ?_
 refine qp (K.and_int rfl rfl) ?_
 refine qm ?_
 refine qp (K.and_int rfl rfl) ?_
 refine qp (K.Pure.eq (K.add_wrap rfl rfl) (show _ = .int .u64 (oc2 (oc1 x)) from rfl)) ?_
 refine qa ?_
 refine sn (sr (qm ?_))
 refine qp (K.shr_int rfl rfl (by decide)) ?_
 refine qm ?_
 refine qp (K.add_wrap rfl rfl) ?_
 refine qp (K.Pure.eq (K.and_int rfl rfl) (show _ = .int .u64 (oc3 (oc2 (oc1 x))) from rfl)) ?_
 refine qa ?_
 refine sn (sr ?_)
 iterate 2 refine qm ?_
 refine qp (K.shr_int rfl rfl (by decide)) ?_
 refine qp (K.Pure.eq (K.add_wrap rfl rfl) (show _ = .int .u64 (oc4 8 (oc3 (oc2 (oc1 x)))) from rfl)) ?_
 refine qa ?_
 refine sn (sr ?_)
 iterate 2 refine qm ?_
 refine qp (K.shr_int rfl rfl (by decide)) ?_
 refine qp (K.Pure.eq (K.add_wrap rfl rfl) (show _ = .int .u64 (oc4 16 (oc4 8 (oc3 (oc2 (oc1 x))))) from rfl)) ?_
 refine qa ?_
 refine sn (sr ?_)
 iterate 2 refine qm ?_
 refine qp (K.shr_int rfl rfl (by decide)) ?_
 refine qp (K.Pure.eq (K.add_wrap rfl rfl) (show _ = .int .u64 (oc4 32 (oc4 16 (oc4 8 (oc3 (oc2 (oc1 x)))))) from rfl)) ?_
 refine qa ?_
 refine sn (sr (qm ?_))
 refine K.mA (K.conv_int ik_197 ik_3 rfl) rfl ?_
 refine zN ?_
 refine qp (K.and_int rfl rfl) ?_
 refine qa ?_
 refine sn (K.ret (et ?_))
 exact K.xA rfl (oc_val hx)

set_option maxRecDepth 100000 in
theorem c80 {x : Int} (hx : 0 ≤ x ∧ x ≤ 63) (w : World) :
  Calls Tryz.prog 81 [.int .u64 x].toArray w (K.Gives (.int .i64 (bitsL x).length) w) := by
 refine K.enter (args := [.int .u64 x]) Tryz.func81 rfl (n := 7) rfl ?_
 refine zR ?_
 refine sr (qa ?_)
 refine sn (K.seq (K.oA rfl ?_))
 refine K.skip (K.dA (sr (qm ?_)))
 refine qc (K.nA cal_118 (fun F w hF hw => c104 hx w)) ?_
 refine qa ?_
 refine sn (K.ret (et ?_))
 exact K.gives rfl

set_option maxRecDepth 100000 in
theorem c111 {a : Int} (w : World) :
  Calls Tryz.prog 148 [.int .i64 a].toArray w (K.Gives (.bool false) w) := by
 refine K.enter (args := [.int .i64 a]) Tryz.func148 rfl (n := 5) rfl ?_
 refine zR ?_
 refine sr (qa ?_)
 refine sn (sr ?_)
 iterate 2 refine qm ?_
 refine qp (K.neq rfl rfl) ?_
 refine qa ?_
 refine sn (K.ret (et ?_))
 exact K.pB rfl (by simp)

set_option maxRecDepth 100000 in
theorem c110 {a b : Int} (w : World) :
  Calls Tryz.prog 136 [.int .i64 a, .int .i64 b].toArray w (K.Gives (.int .i64 (cmpS a b)) w) := by
 refine K.enter (args := [.int .i64 a, .int .i64 b]) Tryz.func136 rfl (n := 18) rfl ?_
 refine zR ?_
 refine sr (qa ?_)
 refine sn (sr (qm ?_))
 refine qc (K.nA cal_148 (fun F w hF hw => c111 w)) ?_
 refine qa ?_
 refine sn (sr (qm ?_))
 refine qc (K.nA cal_148 (fun F w hF hw => c111 w)) ?_
 refine qa ?_
 refine sn (K.seq (sr (qm ?_)))
 refine sn ?_
 refine K.cond rfl (fun ht11 => ?_) (fun ht11 => ?_)
 ·try replace ht11 := Kq.oT ht11
  cases ht11
 try replace ht11 := Kq.oF ht11
 refine K.skip (K.dA (K.seq (sr (qm ?_))))
 refine sn ?_
 refine K.cond rfl (fun ht13 => ?_) (fun ht13 => ?_)
 ·try replace ht13 := Kq.oT ht13
  cases ht13
 try replace ht13 := Kq.oF ht13
 refine K.skip (K.dA (K.seq (sr ?_)))
 iterate 2 refine qm ?_
 refine qp (K.lss rfl rfl) ?_
 refine sn ?_
 refine K.cond rfl (fun ht16 => ?_) (fun ht16 => ?_)
 ·try replace ht16 := Kq.oT ht16
  refine sr (qa ?_)
  refine sn (K.ret (K.iA (et ?_)))
  exact K.xA rfl (by unfold cmpS; rw [if_pos ht16])
 try replace ht16 := Kq.oF ht16
 refine K.skip (K.dA (K.seq (sr ?_)))
 iterate 2 refine qm ?_
 refine qp (K.gtr rfl rfl) ?_
 refine sn ?_
 refine K.cond rfl (fun ht19 => ?_) (fun ht19 => ?_)
 ·try replace ht19 := Kq.oT ht19
  refine sr (qa ?_)
  refine sn (K.ret (K.iA (et ?_)))
  exact K.xA rfl (by unfold cmpS; rw [if_neg ht16, if_pos ht19])
 try replace ht19 := Kq.oF ht19
 refine K.skip (K.dA (sr (qa ?_)))
 refine sn (K.ret (et ?_))
 exact K.xA rfl (by unfold cmpS; rw [if_neg ht16, if_neg ht19])

set_option maxRecDepth 100000 in
theorem c105 {A B : Option Addr} {c d : Nat} {xs ys : List Int} {w : World} (hX : K.Rd w A 1 K.eI xs) (hY : K.Rd w B 1 K.eI ys) (hn : xs.length ≤ 4611686018427387904) (hm : ys.length ≤ 4611686018427387904) :
  Calls Tryz.prog 119 [.slice A xs.length c, .slice B ys.length d].toArray w (K.Gives (.int .i64 (cmpL xs ys)) w) := by
 refine K.enter (args := [.slice A xs.length c, .slice B ys.length d]) Tryz.func119 rfl (n := 34) rfl ?_
 refine zR ?_
 refine sr (qa ?_)
 refine sn (K.seq (sr (qm ?_)))
 refine qp (K.aB yB rfl) ?_
 refine qm ?_
 refine sn (K.block ?_)
 refine K.loopW [11] [4, 5, 6, 7, 8, 12, 13, 14, 15, 16, 17, 18, 19, 20, 21, 22, 23, 24, 25, 26, 27, 28, 29, 30] (fun vi L => ∃ k : Nat, vi = [.int .i64 (k : Int)] ∧ L = [] ∧ k ≤ xs.length ∧ k ≤ ys.length ∧ ∀ j, j < k → xs.getD j default = ys.getD j default) (fun vi => xs.length - (intOf (K.nth vi 0)).toNat) ?_ ?_
 ·exact ⟨0, rfl, rfl, Nat.zero_le _, Nat.zero_le _, fun j hj => absurd hj (Nat.not_lt_zero j)⟩
 intro vi vr L hJ
 obtain ⟨k, rfl, rfl, hkn, hkm, hall⟩ := hJ
 refine zY ?_
 refine sr (qp (K.lss rfl rfl) ?_)
 refine sn (K.seq ?_)
 refine K.cond rfl (fun ht12 => ?_) (fun ht12 => ?_)
 ·try replace ht12 := Kq.oT ht12
  have hk : k < xs.length := by omega
  refine K.skip (K.dA (K.seq (K.block (sr (qm ?_)))))
  refine K.vB (M := []) _ hX.sl yB rfl rfl rfl (by omega) rfl ?_
  intro p14 hp14
  refine zN ?_
  refine ql (K.load1 one_3 rfl (hp14.any)) ?_
  iterate 2 refine qa ?_
  refine sn (K.seq (sr ?_))
  iterate 2 refine qm ?_
  refine qp (K.aB yB rfl) ?_
  refine qp (K.geq rfl rfl) ?_
  refine sn ?_
  refine K.cond rfl (fun ht19 => ?_) (fun ht19 => ?_)
  ·try replace ht19 := Kq.oT ht19
   refine sr (qa ?_)
   refine sn (K.ret (K.iA (K.qA (K.iA (K.iA (K.qA (K.iA (et ?_))))))))
   exact K.xA rfl (cmpL_long hall hk (by omega)).symm
  try replace ht19 := Kq.oF ht19
  have hk2 : k < ys.length := by omega
  refine K.skip (K.dA (sr ?_))
  iterate 2 refine qm ?_
  refine K.vB (M := []) _ hY.sl yB rfl rfl rfl (by omega) rfl ?_
  intro p22 hp22
  refine zN ?_
  refine ql (K.load1 one_3 rfl (hp22.any)) ?_
  refine qa ?_
  refine sn (sr ?_)
  iterate 2 refine qm ?_
  refine qc (K.nA cal_136 (fun F w hF hw => c110 w)) ?_
  refine qa ?_
  refine sn (sr (qm ?_))
  refine qp (K.neq rfl rfl) ?_
  refine sn ?_
  refine K.cond rfl (fun ht28 => ?_) (fun ht28 => ?_)
  ·try replace ht28 := Kq.oT ht28
   refine sr (qm ?_)
   refine qa ?_
   refine sn (K.ret (K.qA (K.iA (K.iA (K.qA (K.iA (et ?_)))))))
   exact K.xA rfl (cmpL_diff hall hk hk2 (by omega)).symm
  try replace ht28 := Kq.oF ht28
  refine K.skip (K.kA (K.dA (K.gA (qp (K.tA rfl rfl (by omega)) ?_))))
  refine qm ?_
  refine K.lA ?_
  exact K.rA [.int .i64 ((k : Int) + 1)] ⟨k + 1, rfl, rfl, by omega, by omega, K.fB hall (cmp0 (by omega))⟩ (by simp [K.nth, intOf]; omega) Kq.s0 (by kernel_rfl)
 try replace ht12 := Kq.oF ht12
 refine K.exit (K.pA (K.pA (K.zA (K.dA (K.seq (sr (qm ?_)))))))
 refine qp (K.aB yB rfl) ?_
 refine qm ?_
 refine qp (K.aB yB rfl) ?_
 refine qp (K.lss rfl rfl) ?_
 refine sn ?_
 refine K.cond rfl (fun ht35 => ?_) (fun ht35 => ?_)
 ·try replace ht35 := Kq.oT ht35
  refine sr (qa ?_)
  refine sn (K.ret (K.iA (et ?_)))
  exact K.xA rfl (cmpL_short hall (by omega) (by omega)).symm
 try replace ht35 := Kq.oF ht35
 refine K.skip (K.dA (sr (qa ?_)))
 refine sn (K.ret (et ?_))
 exact K.xA rfl (cmpL_same hall (by omega) (by omega)).symm

theorem few_skip {p : Nat → Bool} {n s : Nat} (h1 : (fewF p n s).isSome = true) (h : (ptsS n s).length > ((fewF p n s).getD []).length ∨ ((ptsS n s).length = ((fewF p n s).getD []).length ∧ cmpL (ptsS n s) ((fewF p n s).getD []) > 0)) : fewF p n (s + 1) = fewF p n s := by
 rw [fewF]
 cases e : fewF p n s with
 | none => rw [e] at h1; cases h1
 | some l =>
  rw [e] at h
  simp only [Option.getD_some] at h
  simp only
  rw [if_pos h]
theorem few_yes {p : Nat → Bool} {n s : Nat} (h1 : (fewF p n s).isSome = true → ¬ ((ptsS n s).length > ((fewF p n s).getD []).length ∨ ((ptsS n s).length = ((fewF p n s).getD []).length ∧ cmpL (ptsS n s) ((fewF p n s).getD []) > 0))) (h : p s = true) : fewF p n (s + 1) = some (ptsS n s) := by
 rw [fewF]
 cases e : fewF p n s with
 | none => simp only; rw [if_pos h]
 | some l =>
  rw [e] at h1
  have h2 := h1 rfl
  simp only [Option.getD_some] at h2
  simp only
  rw [if_neg h2, if_pos h]
theorem few_no {p : Nat → Bool} {n s : Nat} (h : p s = false) : fewF p n (s + 1) = fewF p n s := by
 rw [fewF]
 cases e : fewF p n s with
 | none => simp only; rw [if_neg (by simp [h])]
 | some l =>
  simp only
  split
  ·rfl
  ·rw [if_neg (by simp [h])]
theorem few_len {p : Nat → Bool} {n : Nat} : ∀ s, ((fewF p n s).getD []).length ≤ n
 | 0 => Nat.zero_le _
 | s + 1 => by
  have ih := few_len (p := p) (n := n) s
  rw [fewF]
  cases e : fewF p n s with
  | none =>
   simp only
   split
   ·exact pts_len
   ·exact Nat.zero_le _
  | some l =>
   rw [e] at ih
   simp only
   split
   ·exact ih
   ·split
    ·exact pts_len
    ·exact ih


set_option maxRecDepth 100000 in
theorem c82 {gf n : Nat} {cap : List Value} {p : Nat → Bool} {w : World} (hT : Tab w) (hn6 : n ≤ 6) (hcal : K.callable Tryz.prog gf = true) (hf : ∀ s : Nat, s < 2 ^ n → ∀ w1, Below w.heap.size w w1 → Calls Tryz.prog gf ([Value.int .i64 (s : Int)] ++ cap).toArray w1 (K.Gives (.bool (p s)) w1)) :
  Calls Tryz.prog 82 [.int .i64 (n : Int), .func (.func gf) #[] cap.toArray].toArray w (K.Ret (fun r : Option Addr × Nat => ((fewS p n).getD []).length = 0 ∨ ∃ b, r.1 = some ⟨b, 0, none⟩) (fun r => .tuple #[.slice r.1 ((fewS p n).getD []).length r.2, .bool (fewS p n).isSome]) (fun r => [K.row (.slice r.1 ((fewS p n).getD []).length r.2) 3 1 ((fewS p n).getD []).length (((fewS p n).getD []).flatMap K.eI)]) w) := by
 have hpb := pow_bd hn6
 obtain ⟨_, hin, _⟩ := lst_spec hn6
 refine K.enter (args := [.int .i64 (n : Int), .func (.func gf) #[] cap.toArray]) Tryz.func82 rfl (n := 42) rfl ?_
 refine zR ?_
 refine sr ?_
 iterate 2 refine qa ?_
 refine sn (K.seq (sr ?_))
 refine K.jC (e := 3) (size := 1) ?_
 iterate 2 refine qm ?_
 refine qp (K.Pure.eq (K.shl_int rfl rfl (by omega)) (show _ = Value.int .i64 ((2 ^ n : Nat) : Int) from by rw [shl_val hn6])) ?_
 refine qm ?_
 refine sn (K.block ?_)
 refine K.loopW [4, 5, 11] [6, 7, 12, 13, 14, 15, 16, 17, 18, 19, 20, 21, 22, 23, 24, 25, 26, 27, 28, 29, 30, 31, 32, 33, 34, 35, 36, 37, 38, 39, 40, 41] (fun vi L => ∃ (s : Nat) (Q1 : Option Addr) (q1 : Nat), vi = [.slice Q1 ((fewF p n s).getD []).length q1, .bool (fewF p n s).isSome, .int .i64 (s : Int)] ∧ L = [K.row (.slice Q1 ((fewF p n s).getD []).length q1) 3 1 ((fewF p n s).getD []).length (((fewF p n s).getD []).flatMap K.eI)] ∧ s ≤ 2 ^ n) (fun vi => 2 ^ n - (intOf (K.nth vi 2)).toNat) ?_ ?_
 ·exact ⟨0, none, 0, rfl, rfl, Nat.zero_le _⟩
 intro vi vr L hJ
 obtain ⟨s, Q1, q1, rfl, rfl, hsn⟩ := hJ
 refine zY ?_
 refine sr (qp (K.lss rfl rfl) ?_)
 refine sn (K.seq ?_)
 refine K.cond rfl (fun ht12 => ?_) (fun ht12 => ?_)
 ·try replace ht12 := Kq.oT ht12
  have hs : s < 2 ^ n := by omega
  have hfl := few_len (p := p) (n := n) s
  have hpl := pts_len (n := n) (s := s)
  refine K.skip (K.dA (K.seq (K.block (sr (qm ?_)))))
  refine qa ?_
  refine sn (sr (qm ?_))
  refine K.gB (K.lB cal_50 (fun F w hF hw => (by have hh := c68 (hT.pass hw) (s := (s : Int)) (by omega); rw [(hin s hs).2.2] at hh; exact hh))) rfl ?_
  rintro ⟨Q2, q2⟩ hq2
  refine zN ?_
  refine qa ?_
  refine sn (K.seq (K.seq ?_))
  refine K.iC K.m1 (fun hQ => ?_)
  refine K.gA ?_
  iterate 2 refine qm ?_
  refine K.split 17 rfl (fun hg17 => ?_) (fun hg17 => ?_)
  ·try replace hg17 := Kq.oT hg17
   refine qm ?_
   refine qp (K.aB yB rfl) ?_
   refine qm ?_
   refine qp (K.aB yB rfl) ?_
   refine qp (K.gtr rfl rfl) ?_
   refine qm ?_
   refine K.split 23 rfl (fun hg23 => ?_) (fun hg23 => ?_)
   ·try replace hg23 := Kq.oT hg23
    iterate 11 refine qs ?_
    refine qp (K.sA rfl) ?_
    refine qp (K.sA rfl) ?_
    refine sn (K.yA rfl ?_)
    refine K.exit (K.pA (K.zA (K.dA (K.gA (qp (K.tA rfl rfl (by omega)) ?_)))))
    refine qm ?_
    refine K.lA ?_
    have hfe : fewF p n (s + 1) = fewF p n s := by
     first
      | exact few_skip hg17 (.inl (by omega))
      | exact few_skip hg17 (.inr ⟨by omega, by omega⟩)
    exact K.rA (L'' := [K.row (.slice Q1 ((fewF p n s).getD []).length q1) 3 1 ((fewF p n s).getD []).length (((fewF p n s).getD []).flatMap K.eI)]) [.slice Q1 ((fewF p n s).getD []).length q1, .bool (fewF p n s).isSome, .int .i64 ((s : Int) + 1)] ⟨s + 1, Q1, q1, by rw [hfe]; rfl, by rw [hfe], by omega⟩ (by simp [K.nth, intOf]; omega) (by repeat (first | exact List.Sublist.refl _ | apply List.Sublist.cons)) (by kernel_rfl)
   try replace hg23 := Kq.oF hg23
   refine qm ?_
   refine qp (K.aB yB rfl) ?_
   refine qm ?_
   refine qp (K.aB yB rfl) ?_
   refine qp (K.eql rfl rfl) ?_
   refine qm ?_
   refine K.split 29 rfl (fun hg29 => ?_) (fun hg29 => ?_)
   ·try replace hg29 := Kq.oT hg29
    iterate 2 refine qm ?_
    refine qc (K.nA cal_119 (fun F w hF hw => (by have h1 := K.Rd.own (e := K.eI) hw (hF _ (K.m0)) hq2 (fun _ => rfl) (by decide); have h2 := K.Rd.own (e := K.eI) hw (hF _ (K.m1)) hQ (fun _ => rfl) (by decide); exact c105 h1 h2 (by omega) (by omega)))) ?_
    refine qp (K.gtr rfl rfl) ?_
    refine qp (K.sA rfl) ?_
    refine qp (K.dB rfl) ?_
    refine qp (K.sA rfl) ?_
    refine sn ?_
    refine K.cond rfl (fun ht36 => ?_) (fun ht36 => ?_)
    ·try replace ht36 := Kq.oT ht36
     refine K.exit (K.pA (K.zA (K.dA (K.gA (qp (K.tA rfl rfl (by omega)) ?_)))))
     refine qm ?_
     refine K.lA ?_
     have hfe : fewF p n (s + 1) = fewF p n s := by
      first
       | exact few_skip hg17 (.inl (by omega))
       | exact few_skip hg17 (.inr ⟨by omega, by omega⟩)
     exact K.rA (L'' := [K.row (.slice Q1 ((fewF p n s).getD []).length q1) 3 1 ((fewF p n s).getD []).length (((fewF p n s).getD []).flatMap K.eI)]) [.slice Q1 ((fewF p n s).getD []).length q1, .bool (fewF p n s).isSome, .int .i64 ((s : Int) + 1)] ⟨s + 1, Q1, q1, by rw [hfe]; rfl, by rw [hfe], by omega⟩ (by simp [K.nth, intOf]; omega) (by repeat (first | exact List.Sublist.refl _ | apply List.Sublist.cons)) (by kernel_rfl)
    try replace ht36 := Kq.oF ht36
    refine K.skip (K.dA (sr ?_))
    iterate 2 refine qm ?_
    refine qc (K.callv_g (first := []) (cap := cap) rfl hcal (fun F w1 _ hw => hf s hs w1 hw.1)) ?_
    refine sn ?_
    refine K.cond rfl (fun ht39 => ?_) (fun ht39 => ?_)
    ·try replace ht39 := Kq.oT ht39
     refine K.gA (qm ?_)
     iterate 2 refine qa ?_
     refine K.lA (K.kA (K.dA (K.gA (qp (K.tA rfl rfl (by omega)) ?_))))
     refine qm ?_
     refine K.lA ?_
     have hfe : fewF p n (s + 1) = some (ptsS n s) := few_yes (fun h0 => by first | omega | (rw [h0] at hg17; cases hg17)) ht39
     exact K.rA (L'' := [K.row (.slice Q2 (ptsS n s).length q2) 3 1 (ptsS n s).length ((ptsS n s).flatMap K.eI)]) [.slice Q2 (ptsS n s).length q2, .bool true, .int .i64 ((s : Int) + 1)] ⟨s + 1, Q2, q2, by rw [hfe]; rfl, by rw [hfe]; rfl, by omega⟩ (by simp [K.nth, intOf]; omega) (Kq.sc (List.nil_sublist _)) (by kernel_rfl)
    try replace ht39 := Kq.oF ht39
    refine K.skip (K.kA (K.dA (K.gA (qp (K.tA rfl rfl (by omega)) ?_))))
    refine qm ?_
    refine K.lA ?_
    have hfe : fewF p n (s + 1) = fewF p n s := few_no ht39
    exact K.rA (L'' := [K.row (.slice Q1 ((fewF p n s).getD []).length q1) 3 1 ((fewF p n s).getD []).length (((fewF p n s).getD []).flatMap K.eI)]) [.slice Q1 ((fewF p n s).getD []).length q1, .bool (fewF p n s).isSome, .int .i64 ((s : Int) + 1)] ⟨s + 1, Q1, q1, by rw [hfe]; rfl, by rw [hfe], by omega⟩ (by simp [K.nth, intOf]; omega) (by repeat (first | exact List.Sublist.refl _ | apply List.Sublist.cons)) (by kernel_rfl)
   try replace hg29 := Kq.oF hg29
   iterate 4 refine qs ?_
   refine qp (K.dB rfl) ?_
   refine qp (K.dB rfl) ?_
   refine qp (K.sA rfl) ?_
   refine sn (K.oA rfl ?_)
   refine K.skip (K.dA (sr ?_))
   iterate 2 refine qm ?_
   refine qc (K.callv_g (first := []) (cap := cap) rfl hcal (fun F w1 _ hw => hf s hs w1 hw.1)) ?_
   refine sn ?_
   refine K.cond rfl (fun ht39 => ?_) (fun ht39 => ?_)
   ·try replace ht39 := Kq.oT ht39
    refine K.gA (qm ?_)
    iterate 2 refine qa ?_
    refine K.lA (K.kA (K.dA (K.gA (qp (K.tA rfl rfl (by omega)) ?_))))
    refine qm ?_
    refine K.lA ?_
    have hfe : fewF p n (s + 1) = some (ptsS n s) := few_yes (fun h0 => by first | omega | (rw [h0] at hg17; cases hg17)) ht39
    exact K.rA (L'' := [K.row (.slice Q2 (ptsS n s).length q2) 3 1 (ptsS n s).length ((ptsS n s).flatMap K.eI)]) [.slice Q2 (ptsS n s).length q2, .bool true, .int .i64 ((s : Int) + 1)] ⟨s + 1, Q2, q2, by rw [hfe]; rfl, by rw [hfe]; rfl, by omega⟩ (by simp [K.nth, intOf]; omega) (Kq.sc (List.nil_sublist _)) (by kernel_rfl)
   try replace ht39 := Kq.oF ht39
   refine K.skip (K.kA (K.dA (K.gA (qp (K.tA rfl rfl (by omega)) ?_))))
   refine qm ?_
   refine K.lA ?_
   have hfe : fewF p n (s + 1) = fewF p n s := few_no ht39
   exact K.rA (L'' := [K.row (.slice Q1 ((fewF p n s).getD []).length q1) 3 1 ((fewF p n s).getD []).length (((fewF p n s).getD []).flatMap K.eI)]) [.slice Q1 ((fewF p n s).getD []).length q1, .bool (fewF p n s).isSome, .int .i64 ((s : Int) + 1)] ⟨s + 1, Q1, q1, by rw [hfe]; rfl, by rw [hfe], by omega⟩ (by simp [K.nth, intOf]; omega) (by repeat (first | exact List.Sublist.refl _ | apply List.Sublist.cons)) (by kernel_rfl)
  try replace hg17 := Kq.oF hg17
  iterate 18 refine qs ?_
  refine qp (K.dB rfl) ?_
  refine sn (K.oA rfl ?_)
  refine K.skip (K.dA (sr ?_))
  iterate 2 refine qm ?_
  refine qc (K.callv_g (first := []) (cap := cap) rfl hcal (fun F w1 _ hw => hf s hs w1 hw.1)) ?_
  refine sn ?_
  refine K.cond rfl (fun ht39 => ?_) (fun ht39 => ?_)
  ·try replace ht39 := Kq.oT ht39
   refine K.gA (qm ?_)
   iterate 2 refine qa ?_
   refine K.lA (K.kA (K.dA (K.gA (qp (K.tA rfl rfl (by omega)) ?_))))
   refine qm ?_
   refine K.lA ?_
   have hfe : fewF p n (s + 1) = some (ptsS n s) := few_yes (fun h0 => by first | omega | (rw [h0] at hg17; cases hg17)) ht39
   exact K.rA (L'' := [K.row (.slice Q2 (ptsS n s).length q2) 3 1 (ptsS n s).length ((ptsS n s).flatMap K.eI)]) [.slice Q2 (ptsS n s).length q2, .bool true, .int .i64 ((s : Int) + 1)] ⟨s + 1, Q2, q2, by rw [hfe]; rfl, by rw [hfe]; rfl, by omega⟩ (by simp [K.nth, intOf]; omega) (Kq.sc (List.nil_sublist _)) (by kernel_rfl)
  try replace ht39 := Kq.oF ht39
  refine K.skip (K.kA (K.dA (K.gA (qp (K.tA rfl rfl (by omega)) ?_))))
  refine qm ?_
  refine K.lA ?_
  have hfe : fewF p n (s + 1) = fewF p n s := few_no ht39
  exact K.rA (L'' := [K.row (.slice Q1 ((fewF p n s).getD []).length q1) 3 1 ((fewF p n s).getD []).length (((fewF p n s).getD []).flatMap K.eI)]) [.slice Q1 ((fewF p n s).getD []).length q1, .bool (fewF p n s).isSome, .int .i64 ((s : Int) + 1)] ⟨s + 1, Q1, q1, by rw [hfe]; rfl, by rw [hfe], by omega⟩ (by simp [K.nth, intOf]; omega) (by repeat (first | exact List.Sublist.refl _ | apply List.Sublist.cons)) (by kernel_rfl)
 try replace ht12 := Kq.oF ht12
 refine K.exit (K.pA (K.pA (K.zA (K.dA (sr ?_)))))
 iterate 2 refine qm ?_
 iterate 2 refine qa ?_
 refine sn (K.ret ?_)
 refine K.wA (fun w _ => K.qB rfl w) ?_
 have e0 : s = 2 ^ n := by omega
 subst e0
 exact K.iC K.m0 (fun hQ => K.rets_v (Q1, q1) hQ rfl rfl Kq.s0)

end Go.Proofs.YtnhhfkgldoeifaaGreatDoor.Pn
end
section
namespace Go.Proofs.YtnhhfkgldoeifaaGreatDoor.Pn
open Go.RowKit Go
open Go.K (setd setn ev nth over cl eI eP eT setM setF)
attribute [local irreducible] K.blk K.row

theorem Tab.later {w w1 : World} (h : Tab w) (hb : Below w.heap.size w w1) : Tab w1 := ⟨Nat.lt_of_lt_of_le h.1 hb.size, K.PtrL.old (Nat.lt_of_lt_of_le h.1 hb.size) (fun j u hu => (hb.cell (p := (⟨1, 0, none⟩ : Addr).add j) (by rw [K.addr_block]; exact h.1)).trans (h.2 [] w (by simp) (K.St.start w) j u hu))⟩
theorem Good.k6 {m : Mod} (g : Good m) : m.ss.length ≤ 6 := by have := g.k; omega

theorem cov_next {m : Mod} {pts : List Int} {k : Nat} (hn : m.ps.length ≤ 6) (hk : k < pts.length) : orI (setN (fun i => (pts.take k).any fun s => sureB m s.toNat i) m.ps.length) (setN (sureB m (pts.getD k default).toNat) m.ps.length) = setN (fun i => (pts.take (k + 1)).any fun s => sureB m s.toNat i) m.ps.length := by
 rw [or_set hn]
 refine setN_congr (fun i hi => ?_)
 rw [any_take hk]
theorem pts_in {n s : Nat} {x : Int} (h : x ∈ ptsS n s) : 0 ≤ x ∧ x < n := by
 obtain ⟨i, h1, _, rfl⟩ := mem_sel.1 h
 omega


set_option maxRecDepth 100000 in
theorem c83 {m : Mod} {A B C : Option Addr} {c d e : Nat} {s q : Nat} {Q : Option Addr} {p1 p2 : Addr} {w : World} (hT : Tab w) (h1 : K.PtrL w [] p1 [.slice Q (sureZ m m.ss.length).length q]) (h2 : K.PtrL w [] p2 [.int .i64 m.W, .int .i64 m.D, .slice A m.hs.length c, .slice B m.ps.length d, .slice C m.ss.length e]) (hZ : K.Rd w Q 1 K.eI (sureZ m m.ss.length)) (g : Good m) (hs : s < 2 ^ m.ss.length) :
  Calls Tryz.prog 84 [.int .i64 (s : Int), .pointer (some p1), .pointer (some p2)].toArray w (K.Gives (.bool (covB m (ptsS m.ss.length s))) w) := by
 have hgn := g.n
 have hgk := g.k
 have hpb := pow_bd (n := m.ss.length) (by omega)
 obtain ⟨_, hin, _⟩ := lst_spec (n := m.ss.length) (by omega)
 have hpl := pts_len (n := m.ss.length) (s := s)
 refine K.enter (args := [.int .i64 (s : Int), .pointer (some p1), .pointer (some p2)]) Tryz.func84 rfl (n := 26) rfl ?_
 refine zR ?_
 refine sr (qa ?_)
 refine sn (sr (qa ?_))
 refine sn (K.seq (sr (qm ?_)))
 refine K.gB (K.lB cal_50 (fun F w hF hw => (by have hh := c68 (hT.pass hw) (s := (s : Int)) (by omega); rw [(hin s hs).2.2] at hh; exact hh))) rfl ?_
 rintro ⟨Q2, q2⟩ hq2
 refine zN ?_
 refine qp (K.aB yB rfl) ?_
 refine qm ?_
 refine sn (K.block ?_)
 refine K.loopW [5, 11] [7, 12, 13, 14, 15, 16, 17, 18, 19, 20, 21] (fun vi L => ∃ k : Nat, vi = [.int .i64 (setN (fun i => ((ptsS m.ss.length s).take k).any fun s => sureB m s.toNat i) m.ps.length), .int .i64 (k : Int)] ∧ L = [K.row (.slice Q2 (ptsS m.ss.length s).length q2) 3 1 (ptsS m.ss.length s).length ((ptsS m.ss.length s).flatMap K.eI)] ∧ k ≤ (ptsS m.ss.length s).length) (fun vi => (ptsS m.ss.length s).length - (intOf (K.nth vi 1)).toNat) ?_ ?_
 ·exact ⟨0, by rw [show (fun i => (List.take 0 (ptsS m.ss.length s)).any fun s => sureB m s.toNat i) = fun _ => false from rfl, setN_none]; rfl, rfl, Nat.zero_le _⟩
 intro vi vr L hJ
 obtain ⟨k, rfl, rfl, hkn⟩ := hJ
 refine zY ?_
 refine sr (qp (K.lss rfl rfl) ?_)
 refine sn (K.seq ?_)
 refine K.cond rfl (fun ht12 => ?_) (fun ht12 => ?_)
 ·try replace ht12 := Kq.oT ht12
  have hk : k < (ptsS m.ss.length s).length := by omega
  refine K.skip (K.dA (K.seq (K.block (sr (K.vB (M := [K.row (.slice Q2 (ptsS m.ss.length s).length q2) 3 1 (ptsS m.ss.length s).length ((ptsS m.ss.length s).flatMap K.eI)]) _ (K.Sl.own hq2 (fun _ => rfl)) yB rfl rfl rfl (by omega) rfl ?_)))))
  intro p13 hp13
  refine zN ?_
  refine ql (K.load1 one_3 rfl ((hp13.at1 K.m0))) ?_
  refine qa ?_
  refine sn (K.gA (qm ?_))
  refine ql (K.load1 gC rfl (h1.any)) ?_
  refine qm ?_
  refine K.vB (M := []) (((ptsS m.ss.length s).getD k default).toNat) hZ.sl yB rfl rfl (by rw [Int.toNat_of_nonneg (pts_in (K.gt_mem hk)).1]) (by rw [sureZ_len]; have := pts_in (n := m.ss.length) (s := s) (K.gt_mem hk); omega) rfl ?_
  intro p18 hp18
  refine zN ?_
  refine ql (K.load1 one_3 rfl (hp18.any)) ?_
  rw [sureZ_at (m := m) (k := m.ss.length) (s := ((ptsS m.ss.length s).getD k default).toNat) (by have := pts_in (n := m.ss.length) (s := s) (K.gt_mem hk); omega)]
  refine zN ?_
  refine qp (K.Pure.eq (K.or_int rfl rfl) (show _ = Value.int .i64 (setN (fun i => ((ptsS m.ss.length s).take (k + 1)).any fun s => sureB m s.toNat i) m.ps.length) from by rw [← cov_next g.n hk]; rfl)) ?_
  refine qa ?_
  refine K.lA (K.kA (K.dA (K.gA (qp (K.tA rfl rfl (by omega)) ?_))))
  refine qm ?_
  refine K.lA ?_
  exact K.rA (L'' := [K.row (.slice Q2 (ptsS m.ss.length s).length q2) 3 1 (ptsS m.ss.length s).length ((ptsS m.ss.length s).flatMap K.eI)]) [.int .i64 (setN (fun i => ((ptsS m.ss.length s).take (k + 1)).any fun s => sureB m s.toNat i) m.ps.length), .int .i64 ((k : Int) + 1)] ⟨k + 1, rfl, rfl, by omega⟩ (by simp [K.nth, intOf]; omega) Kq.s0 (by kernel_rfl)
 try replace ht12 := Kq.oF ht12
 refine K.exit (K.pA (K.pA (K.zA (K.dA (K.seq ?_)))))
 have hpb2 := pow_bd g.n
 have hp0 : 0 ≤ ((2 ^ m.ps.length : Nat) : Int) := Int.natCast_nonneg _
 refine K.gA (qm ?_)
 refine qp (K.fieldAddr bC rfl) ?_
 refine ql (K.load1 lC rfl ((K.PtrL.fld h2 (k := 3)).any)) ?_
 refine qp (K.aB oC rfl) ?_
 refine qp (K.Pure.eq (K.shl_int rfl rfl (by omega)) (show _ = Value.int .i64 ((2 ^ m.ps.length : Nat) : Int) from by rw [shl_val g.n])) ?_
 refine qp (K.oB rfl rfl (by omega)) ?_
 refine qp (K.eql rfl rfl) ?_
 refine qa ?_
 refine sn (K.ret (et ?_))
 have e0 : (ptsS m.ss.length s).take k = (ptsS m.ss.length s) := List.take_of_length_le (by omega)
 exact K.pB rfl (by rw [e0, set_full g.n]; rfl)

set_option maxRecDepth 100000 in
theorem e32 {m : Mod} {A B C : Option Addr} {c d e : Nat} {w : World} (hH : K.Rd w A 1 K.eI m.hs) (hP : K.Rd w B 5 eN m.ps) (hS : K.Rd w C 4 eS m.ss) (hn : m.hs.length ≤ 4611686018427387904) (hm : m.ps.length ≤ 4611686018427387904) (hk : m.ss.length ≤ 4611686018427387904) (hcd : m.ps.length ≤ d) (hc : (chk m).2.2 ≠ 0) :
  Calls Tryz.prog 44 [.agg #[.int .i64 m.W, .int .i64 m.D, .slice A m.hs.length c, .slice B m.ps.length d, .slice C m.ss.length e]].toArray w (K.RetSE 3 1 K.eI (fewL m) (fewE m) w) := by
 refine K.enter (args := [.agg #[.int .i64 m.W, .int .i64 m.D, .slice A m.hs.length c, .slice B m.ps.length d, .slice C m.ss.length e]]) Tryz.func44 rfl (n := 53) rfl ?_
 refine zR ?_
 refine sr ?_
 refine qn (K.box) fun b1 => ?_
 iterate 2 refine qa ?_
 refine sn (sr (ql (K.jA cC rfl (K.m0) rfl) ?_))
 refine qc (K.nA cal_48 (fun F w hF hw => e67 (hH.pass hw) (hP.pass hw) (hS.pass hw) hn hm hk hcd hc)) ?_
 refine qm ?_
 iterate 2 refine qx ?_
 iterate 2 refine qa ?_
 refine sn (K.seq (sr (qm ?_)))
 refine qp (K.neq rfl rfl) ?_
 refine sn (K.yA (by exact congrArg Value.bool (decide_eq_true hc)) ?_)
 refine sr (qm ?_)
 iterate 2 refine qa ?_
 refine sn (K.ret (K.iA ?_))
 refine K.wA (fun w _ => K.qB rfl w) ?_
 exact K.rets_se0 (by unfold fewL; rw [if_pos hc]) (by unfold fewE; rw [if_pos hc]) rfl

set_option maxRecDepth 100000 in
set_option maxHeartbeats 1000000 in
theorem g32 {m : Mod} {A B C : Option Addr} {c d e : Nat} {w : World} (hH : K.Rd w A 1 K.eI m.hs) (hP : K.Rd w B 5 eN m.ps) (hS : K.Rd w C 4 eS m.ss) (hn : m.hs.length ≤ 4611686018427387904) (hm : m.ps.length ≤ 4611686018427387904) (hk : m.ss.length ≤ 4611686018427387904) (hcd : m.ps.length ≤ d) (hT : Tab w) (hc : (chk m).2.2 = 0) :
  Calls Tryz.prog 44 [.agg #[.int .i64 m.W, .int .i64 m.D, .slice A m.hs.length c, .slice B m.ps.length d, .slice C m.ss.length e]].toArray w (K.RetSE 3 1 K.eI (fewL m) (fewE m) w) := by
 have g : Good m := chk_good hc
 have hgn := g.n
 have hgk := g.k
 refine K.enter (args := [.agg #[.int .i64 m.W, .int .i64 m.D, .slice A m.hs.length c, .slice B m.ps.length d, .slice C m.ss.length e]]) Tryz.func44 rfl (n := 53) rfl ?_
 refine zR ?_
 refine sr ?_
 refine qn (K.box) fun b1 => ?_
 iterate 2 refine qa ?_
 refine sn (sr (ql (K.jA cC rfl (K.m0) rfl) ?_))
 refine K.gB (K.lB cal_48 (fun F w hF hw => g67 (hH.pass hw) (hP.pass hw) (hS.pass hw) hn hm hk hcd (chk_e0 hc))) rfl ?_
 rintro q _
 refine zN ?_
 refine qm ?_
 iterate 2 refine qx ?_
 iterate 2 refine qa ?_
 refine sn (K.seq (sr (qm ?_)))
 refine qp (K.neq rfl rfl) ?_
 refine sn (K.oA (by rfl) ?_)
 refine K.skip (K.dA (sr ?_))
 refine qn (K.alloc zr_26) fun b6 => ?_
 refine sn (K.seq (sr ?_))
 refine K.jC (e := 3) (size := 1) ?_
 refine K.permH (L' := [_, _, _, _]) (Kq.pz ((Kq.pz ((Kq.pz (Kq.p0)))))) ?_
 refine qp (K.aA fo_30_4 rfl) ?_
 refine ql (K.fA one_28 rfl (K.m2) rfl) ?_
 refine qp (K.aB tC rfl) ?_
 refine qm ?_
 refine sn (K.block ?_)
 refine K.loopW [22] [7, 8, 23, 24, 25, 26, 27, 28, 29, 30, 31, 32, 33, 34, 35, 36, 37, 38, 39, 40, 41, 42] (fun vi L => ∃ (j : Nat) (Q1 : Option Addr) (q1 : Nat), vi = [.int .i64 (j : Int)] ∧ L = [K.blk b6 26 [.slice Q1 (sureZ m j).length q1], K.blk q 108 (mdl m A B C c d e), K.blk b1 30 [.int .i64 m.W, .int .i64 m.D, .slice A m.hs.length c, .slice B m.ps.length d, .slice C m.ss.length e], K.row (.slice Q1 (sureZ m j).length q1) 3 1 (sureZ m j).length ((sureZ m j).flatMap K.eI)] ∧ j ≤ m.ss.length) (fun vi => m.ss.length - (intOf (K.nth vi 0)).toNat) ?_ ?_
 ·exact ⟨0, none, 0, rfl, rfl, Nat.zero_le _⟩
 intro vi vr L hJ
 obtain ⟨j, Q1, q1, rfl, rfl, hjn⟩ := hJ
 refine zY ?_
 refine sr (qp (K.lss rfl rfl) ?_)
 refine sn (K.seq ?_)
 refine K.cond rfl (fun ht23 => ?_) (fun ht23 => ?_)
 ·try replace ht23 := Kq.oT ht23
  have hj : j < m.ss.length := by omega
  have hst := g.st hj
  have hzl := sureZ_len (m := m) (k := j)
  refine K.skip (K.dA (K.seq (K.block (sr (qm ?_)))))
  refine K.vB (M := []) _ hS.sl tC rfl rfl rfl (by omega) rfl ?_
  intro p25 hp25
  refine zN ?_
  refine ql (K.uB ag_62 rfl (hp25.any) rfl) ?_
  refine qn (K.alloc zr_62) fun b8 => ?_
  refine qa ?_
  refine qt (K.vA sz_62 rfl rfl rfl rfl (K.rp0)) ?_
  refine sn ?_
  refine K.draw_take 4 [15] uA ?_
  refine K.aC 0 rfl (K.fA gC rfl (K.m1) rfl) (fun _ h => K.dC 4 _ h) (by kernel_rfl) (by kernel_rfl) rfl ?_
  refine zN ?_
  refine dp 1 rfl (K.move) ?_
  refine dp 2 rfl (K.move) ?_
  refine dp 3 rfl (K.nilCheck rfl) ?_
  refine dp 4 rfl (K.aA fo_108_1 rfl) ?_
  refine K.aC 5 rfl (K.jA pC rfl (K.m2) rfl) (fun _ h => K.dC 4 _ h) (by kernel_rfl) (by kernel_rfl) rfl ?_
  refine zN ?_
  refine dp 6 rfl (K.move) ?_
  refine dp 7 rfl (K.move) ?_
  refine dp 9 rfl (K.aA fo_62_2 rfl) ?_
  refine dp 10 rfl (K.aA fo_46_0 rfl) ?_
  refine K.aC 11 rfl (K.fA one_3 rfl (K.m0) rfl) (fun _ h => K.dC 4 _ h) (by kernel_rfl) (by kernel_rfl) rfl ?_
  refine zN ?_
  refine K.kB 8 rfl (K.nA cal_52 (fun F w hF hw => c64 (K.PtrL.now hw (hF _ (K.m2))) (hS.pass hw) hj)) (fun _ h => K.dC 4 _ h) (by kernel_rfl) rfl ?_
  refine zN ?_
  refine K.kB 12 rfl (K.nA cal_51 (fun F w hF hw => c69 (l := ownS m) (K.PtrL.now hw (hF _ (K.m2))) (K.blk_lt hw (hF _ (K.m2))) (hP.pass hw) g g.lb (by omega) (by omega) (by omega))) (fun _ h => K.dC 4 _ h) (by kernel_rfl) rfl ?_
  refine zN ?_
  refine K.d_new 13 rfl (K.buildSlice (bs1 _)) (fun _ h => K.dC 4 _ h) (by kernel_rfl) rfl ?_
  intro b40
  refine zN ?_
  refine K.sC 14 rfl (K.append el_26 rfl rfl (K.PtrL.own' (K.m0)) rfl rfl (by decide) (by omega) (by omega) (fun _ _ => K.rp5)) (fun _ => fun _ h => K.tl (K.dC 4 _ h)) (by kernel_rfl) rfl ?_
  rintro ⟨g41, c41⟩ _
  refine zN ?_
  refine K.eC 15 rfl (K.store sz_26 rfl rfl rfl rfl (K.rp2)) rfl (by kernel_rfl) rfl ?_
  intro _ _
  refine zN ?_
  refine dd (K.kA (K.dA (K.gA (qp (K.tA rfl rfl (by omega)) ?_))))
  refine qm ?_
  refine K.lA ?_
  exact K.rA (L'' := [K.blk b6 26 [.slice (some ⟨g41, 0, none⟩) ((sureZ m j).length + 1) c41], K.blk q 108 (mdl m A B C c d e), K.blk b1 30 [.int .i64 m.W, .int .i64 m.D, .slice A m.hs.length c, .slice B m.ps.length d, .slice C m.ss.length e], K.row (.slice (some ⟨g41, 0, none⟩) ((sureZ m j).length + 1) c41) 3 1 ((sureZ m j).length + 1) ((sureZ m j).flatMap K.eI ++ [.int .i64 (setN (sureB m j) m.ps.length)])]) [.int .i64 ((j : Int) + 1)] ⟨j + 1, some ⟨g41, 0, none⟩, c41, rfl, by rw [sureZ_succ, List.length_append, List.flatMap_append]; rfl, by omega⟩ (by simp [K.nth, intOf]; omega) (by repeat (first | exact List.Sublist.refl _ | apply List.Sublist.cons)) (by kernel_rfl)
 try replace ht23 := Kq.oF ht23
 refine K.exit (K.pA (K.pA (K.zA (K.dA (K.seq ?_)))))
 have e0 : j = m.ss.length := by omega
 subst e0
 refine K.iC K.m3 (fun hQ => ?_)
 refine K.gA (qp (K.aA fo_30_4 rfl) ?_)
 refine ql (K.fA one_28 rfl (K.m2) rfl) ?_
 refine qp (K.aB tC rfl) ?_
 refine K.mA (K.mkFunc) rfl ?_
 refine zN ?_
 refine K.gB (K.lB cal_82 (fun F w hF hw => c82 (gf := 84) (cap := [.pointer (some ⟨b6, 0, none⟩), .pointer (some ⟨b1, 0, none⟩)]) (p := fun s => covB m (ptsS m.ss.length s)) (hT.pass hw) g.k6 cal_84 (fun s hs w1 hb => (by have hz := K.Rd.own (e := K.eI) hw (hF _ (K.m3)) hQ (fun _ => rfl) (by decide); have hp1 := K.PtrL.pass hw (hF _ (K.m0)) hb; have hp2 := K.PtrL.pass hw (hF _ (K.m2)) hb; exact c83 (Tab.later (hT.pass hw) hb) hp1 hp2 (hz.later hb) g hs)))) rfl ?_
 rintro ⟨Q3, q3⟩ hq3
 refine zN ?_
 refine qm ?_
 iterate 2 refine qx ?_
 iterate 2 refine qa ?_
 refine sn (K.seq (sr (qm ?_)))
 first | refine K.mA (K.fC rfl) rfl ?_ | refine K.mA (K.not_ rfl) rfl ?_
 refine zN ?_
 refine sn ?_
 refine K.cond rfl (fun ht52 => ?_) (fun ht52 => ?_)
 ·try replace ht52 := Kq.oT ht52
  refine sr ?_
  iterate 2 refine qa ?_
  refine sn (K.ret (K.iA ?_))
  refine K.wA (fun w _ => K.qB rfl w) ?_
  have hsm : (fewM m).isSome = false := by have h := ht52; unfold fewM; simpa using h
  have he : fewE m = 9 := by
   unfold fewE
   rw [if_neg (by omega), if_pos hsm]
  have hl : fewL m = [] := by
   unfold fewL
   rw [if_neg (by omega)]
   cases hf : fewM m with
   | none => rfl
   | some l => rw [hf] at hsm; cases hsm
  exact K.rets_se0 hl he.symm rfl
 try replace ht52 := Kq.oF ht52
 refine K.skip (K.dA (sr (qm ?_)))
 iterate 2 refine qa ?_
 refine sn (K.ret ?_)
 refine K.wA (fun w _ => K.qB rfl w) ?_
 have hsm : (fewM m).isSome = true := by have h := ht52; unfold fewM; simpa using h
 have he : fewE m = 0 := by
  unfold fewE
  rw [if_neg (by omega), if_neg (by rw [hsm]; decide)]
 have hl : fewL m = ((fewM m).getD []) := by unfold fewL; rw [if_neg (by omega)]
 rw [hl, he]
 exact K.rets_se K.m0 rfl rfl rfl rfl

theorem c32 {m : Mod} {A B C : Option Addr} {c d e : Nat} {w : World} (hH : K.Rd w A 1 K.eI m.hs) (hP : K.Rd w B 5 eN m.ps) (hS : K.Rd w C 4 eS m.ss) (hn : m.hs.length ≤ 4611686018427387904) (hm : m.ps.length ≤ 4611686018427387904) (hk : m.ss.length ≤ 4611686018427387904) (hcd : m.ps.length ≤ d) (hT : Tab w) : Calls Tryz.prog 44 [.agg #[.int .i64 m.W, .int .i64 m.D, .slice A m.hs.length c, .slice B m.ps.length d, .slice C m.ss.length e]].toArray w (K.RetSE 3 1 K.eI (fewL m) (fewE m) w) := by
 by_cases hc : (chk m).2.2 = 0
 ·exact g32 hH hP hS hn hm hk hcd hT hc
 ·exact e32 hH hP hS hn hm hk hcd hc


end Go.Proofs.YtnhhfkgldoeifaaGreatDoor.Pn
end
section
namespace Go.Proofs.YtnhhfkgldoeifaaGreatDoor.Pn
open Go.RowKit Go
open Go.K (setd setn ev nth over cl eI eP eT setM setF)
attribute [local irreducible] K.blk K.row
theorem bs23 (s : ByteArray) (a b c d : Int) : K.Bs Tryz.prog 27 1 [(0, .agg #[.string s, .int .i64 a, .int .i64 b, .int .i64 c, .int .i64 d])] 48 [.string s, .int .i64 a, .int .i64 b, .int .i64 c, .int .i64 d] := fun w => by kernel_rfl
theorem eN_len (x : PinT) : (eN x).length = 5 := rfl

set_option maxRecDepth 100000 in
theorem e30 {m : Mod} {A B C : Option Addr} {c d e : Nat} {eye : Int} {w : World} (hH : K.Rd w A 1 K.eI m.hs) (hP : K.Rd w B 5 eN m.ps) (hS : K.Rd w C 4 eS m.ss) (hn : m.hs.length ≤ 4611686018427387904) (hm : m.ps.length ≤ 4611686018427387904) (hk : m.ss.length ≤ 4611686018427387904) (hcd : m.ps.length ≤ d) (hc : (chk m).2.2 ≠ 0) :
  Calls Tryz.prog 42 [.agg #[.int .i64 m.W, .int .i64 m.D, .slice A m.hs.length c, .slice B m.ps.length d, .slice C m.ss.length e], .int .i64 eye].toArray w (K.Ret (fun r : Option Addr × Nat => (bestR m eye).2.2.length = 0 ∨ ∃ b, r.1 = some ⟨b, 0, none⟩) (fun r => .tuple #[.int .i64 (bestR m eye).1, .int .i64 (bestR m eye).2.1, .slice r.1 (bestR m eye).2.2.length r.2, .int .i64 (bestE m eye)]) (fun r => [K.row (.slice r.1 (bestR m eye).2.2.length r.2) 3 1 (bestR m eye).2.2.length ((bestR m eye).2.2.flatMap K.eI)]) w) := by
 have he : bestE m eye = (chk m).2.2 := by unfold bestE; rw [if_pos hc]
 refine K.enter (args := [.agg #[.int .i64 m.W, .int .i64 m.D, .slice A m.hs.length c, .slice B m.ps.length d, .slice C m.ss.length e], .int .i64 eye]) Tryz.func42 rfl (n := 72) rfl ?_
 refine zR ?_
 refine sr ?_
 refine qn (K.box) fun b2 => ?_
 iterate 4 refine qa ?_
 refine sn (sr (ql (K.jA cC rfl (K.m0) rfl) ?_))
 refine qc (K.nA cal_48 (fun F w hF hw => e67 (hH.pass hw) (hP.pass hw) (hS.pass hw) hn hm hk hcd hc)) ?_
 refine qm ?_
 iterate 2 refine qx ?_
 iterate 2 refine qa ?_
 refine sn (K.seq (K.block (sr (qm ?_))))
 refine qp (K.neq rfl rfl) ?_
 refine qa ?_
 refine sn (K.yA (by exact congrArg Value.bool (decide_eq_true hc)) ?_)
 refine sr (qm ?_)
 iterate 4 refine qa ?_
 refine sn (K.ret (K.qA (K.iA ?_)))
 refine K.wA (fun w _ => K.res_t4 rfl w) ?_
 have hr : bestR m eye = (0, 0, []) := by unfold bestR; rw [if_neg (by omega)]
 rw [hr]
 exact K.jC (e := 3) (size := 1) (K.rets_v (none, 0) (.inl rfl) (by rw [he]; rfl) rfl (Kq.sc (List.nil_sublist _)))

set_option maxRecDepth 100000 in
theorem f30 {m : Mod} {A B C : Option Addr} {c d e : Nat} {eye : Int} {w : World} (hH : K.Rd w A 1 K.eI m.hs) (hP : K.Rd w B 5 eN m.ps) (hS : K.Rd w C 4 eS m.ss) (hn : m.hs.length ≤ 4611686018427387904) (hm : m.ps.length ≤ 4611686018427387904) (hk : m.ss.length ≤ 4611686018427387904) (hcd : m.ps.length ≤ d) (hc : (chk m).2.2 = 0) (hey : ¬ (0 ≤ eye ∧ eye ≤ 2000)) :
  Calls Tryz.prog 42 [.agg #[.int .i64 m.W, .int .i64 m.D, .slice A m.hs.length c, .slice B m.ps.length d, .slice C m.ss.length e], .int .i64 eye].toArray w (K.Ret (fun r : Option Addr × Nat => (bestR m eye).2.2.length = 0 ∨ ∃ b, r.1 = some ⟨b, 0, none⟩) (fun r => .tuple #[.int .i64 (bestR m eye).1, .int .i64 (bestR m eye).2.1, .slice r.1 (bestR m eye).2.2.length r.2, .int .i64 (bestE m eye)]) (fun r => [K.row (.slice r.1 (bestR m eye).2.2.length r.2) 3 1 (bestR m eye).2.2.length ((bestR m eye).2.2.flatMap K.eI)]) w) := by
 have he : bestE m eye = 7 := by unfold bestE; rw [if_neg (by omega), if_pos hey]
 refine K.enter (args := [.agg #[.int .i64 m.W, .int .i64 m.D, .slice A m.hs.length c, .slice B m.ps.length d, .slice C m.ss.length e], .int .i64 eye]) Tryz.func42 rfl (n := 72) rfl ?_
 refine zR ?_
 refine sr ?_
 refine qn (K.box) fun b2 => ?_
 iterate 4 refine qa ?_
 refine sn (sr (ql (K.jA cC rfl (K.m0) rfl) ?_))
 refine K.gB (K.lB cal_48 (fun F w hF hw => g67 (hH.pass hw) (hP.pass hw) (hS.pass hw) hn hm hk hcd (chk_e0 hc))) rfl ?_
 rintro q _
 refine zN ?_
 refine qm ?_
 iterate 2 refine qx ?_
 iterate 2 refine qa ?_
 refine sn (K.seq (K.block (sr (qm ?_))))
 refine qp (K.neq rfl rfl) ?_
 refine qa ?_
 refine sn (K.oA (by rfl) ?_)
 refine sr (qm ?_)
 refine qn (K.buildSlice (bs1 _)) fun b26 => ?_
 refine qc (K.nA cal_49 (fun F w hF hw => c50_1 hw (hF _ (K.m0)))) ?_
 refine qa ?_
 refine sn (K.yA (by exact congrArg Value.bool (decide_eq_true hey)) ?_)
 refine sr ?_
 iterate 4 refine qa ?_
 refine sn (K.ret (K.qA (K.iA ?_)))
 refine K.wA (fun w _ => K.res_t4 rfl w) ?_
 have hr : bestR m eye = (0, 0, []) := by unfold bestR; rw [if_neg (by omega)]
 rw [hr]
 exact K.jC (e := 3) (size := 1) (K.rets_v (none, 0) (.inl rfl) (by rw [he]; rfl) rfl (Kq.sc (List.nil_sublist _)))

set_option maxRecDepth 100000 in
set_option maxHeartbeats 1000000 in
theorem g30 {m : Mod} {A B C : Option Addr} {c d e : Nat} {eye : Int} {w : World} (hH : K.Rd w A 1 K.eI m.hs) (hP : K.Rd w B 5 eN m.ps) (hS : K.Rd w C 4 eS m.ss) (hn : m.hs.length ≤ 4611686018427387904) (hm : m.ps.length ≤ 4611686018427387904) (hk : m.ss.length ≤ 4611686018427387904) (hcd : m.ps.length ≤ d) (hT : Tab w) (hc : (chk m).2.2 = 0) (hey : 0 ≤ eye ∧ eye ≤ 2000) :
  Calls Tryz.prog 42 [.agg #[.int .i64 m.W, .int .i64 m.D, .slice A m.hs.length c, .slice B m.ps.length d, .slice C m.ss.length e], .int .i64 eye].toArray w (K.Ret (fun r : Option Addr × Nat => (bestR m eye).2.2.length = 0 ∨ ∃ b, r.1 = some ⟨b, 0, none⟩) (fun r => .tuple #[.int .i64 (bestR m eye).1, .int .i64 (bestR m eye).2.1, .slice r.1 (bestR m eye).2.2.length r.2, .int .i64 (bestE m eye)]) (fun r => [K.row (.slice r.1 (bestR m eye).2.2.length r.2) 3 1 (bestR m eye).2.2.length ((bestR m eye).2.2.flatMap K.eI)]) w) := by
 have g : Good m := chk_good hc
 have hgw := g.w
 have hgd := g.d
 have hgn := g.n
 have he : bestE m eye = 0 := by unfold bestE; rw [if_neg (by omega), if_neg (by omega)]
 have hr : bestR m eye = ((bestA m eye).1, (bestA m eye).2.1, (bestA m eye).2.2.1) := by unfold bestR; rw [if_pos he]
 rw [hr, he]
 refine K.enter (args := [.agg #[.int .i64 m.W, .int .i64 m.D, .slice A m.hs.length c, .slice B m.ps.length d, .slice C m.ss.length e], .int .i64 eye]) Tryz.func42 rfl (n := 72) rfl ?_
 refine zR ?_
 refine sr ?_
 refine qn (K.box) fun b2 => ?_
 iterate 4 refine qa ?_
 refine sn (sr (ql (K.jA cC rfl (K.m0) rfl) ?_))
 refine K.gB (K.lB cal_48 (fun F w hF hw => g67 (hH.pass hw) (hP.pass hw) (hS.pass hw) hn hm hk hcd (chk_e0 hc))) rfl ?_
 rintro q _
 refine zN ?_
 refine qm ?_
 iterate 2 refine qx ?_
 iterate 2 refine qa ?_
 refine sn (K.seq (K.block (sr (qm ?_))))
 refine qp (K.neq rfl rfl) ?_
 refine qa ?_
 refine sn (K.oA (by rfl) ?_)
 refine sr (qm ?_)
 refine qn (K.buildSlice (bs1 _)) fun b26 => ?_
 refine qc (K.nA cal_49 (fun F w hF hw => c50_1 hw (hF _ (K.m0)))) ?_
 refine qa ?_
 refine sn (K.oA (by exact congrArg Value.bool (decide_eq_false (by omega))) ?_)
 refine K.skip (K.kA (K.dA (sr ?_)))
 refine K.jC (e := 3) (size := 1) ?_
 refine qa ?_
 refine sn (K.seq (K.seq ?_))
 refine K.weak (Kq.sc (Kq.s1 (Kq.sc (Kq.sc (List.Sublist.slnil))))) ?_
 refine K.gA (qp (K.aA fo_30_1 rfl) ?_)
 refine ql (K.fA one_3 rfl (K.m2) rfl) ?_
 refine qp (K.tA rfl rfl (by omega)) ?_
 refine qm ?_
 refine sn (K.block ?_)
 refine K.loopW [4, 5, 6, 9, 31] [10, 11, 12, 13, 14, 32, 33, 34, 35, 36, 37, 38, 39, 40, 41, 42, 43, 44, 45, 46, 47, 48, 49, 50, 51, 52, 53, 54, 55, 56, 57, 58, 59, 60, 61, 62, 63, 64, 65, 66, 67, 68, 69, 70] (fun vi L => ∃ (b : Nat) (Q1 : Option Addr) (q1 : Nat), vi = [.int .i64 (outK m eye b).1, .int .i64 (outK m eye b).2.1, .slice Q1 (outK m eye b).2.2.1.length q1, .int .i64 (outK m eye b).2.2.2, .int .i64 (b : Int)] ∧ L = [K.row (.slice Q1 (outK m eye b).2.2.1.length q1) 3 1 (outK m eye b).2.2.1.length ((outK m eye b).2.2.1.flatMap K.eI), K.blk q 108 (mdl m A B C c d e), K.blk b2 30 [.int .i64 m.W, .int .i64 m.D, .slice A m.hs.length c, .slice B m.ps.length d, .slice C m.ss.length e]] ∧ (b : Int) ≤ m.D + 2) (fun vi => (m.D + 2).toNat - (intOf (K.nth vi 4)).toNat) ?_ ?_
 ·exact ⟨0, none, 0, rfl, rfl, by omega⟩
 intro vi vr L hJ
 obtain ⟨b, Q1, q1, rfl, rfl, hbn⟩ := hJ
 have hok := outK_ok (m := m) (eye := eye) b
 refine zY ?_
 refine sr (qp (K.lss rfl rfl) ?_)
 refine sn (K.seq ?_)
 refine K.cond rfl (fun ht32 => ?_) (fun ht32 => ?_)
 ·try replace ht32 := Kq.oT ht32
  have hbD : (b : Int) < m.D + 2 := by omega
  refine K.skip (K.dA (K.seq (K.block (sr (qm ?_)))))
  refine qa ?_
  refine sn (sr (qp (K.aA fo_30_0 rfl) ?_))
  refine ql (K.fA one_3 rfl (K.m2) rfl) ?_
  refine qp (K.tA rfl rfl (by omega)) ?_
  refine qm ?_
  refine sn (K.block ?_)
  refine K.loopW [4, 5, 6, 9, 37] [11, 12, 13, 14, 38, 39, 40, 41, 42, 43, 44, 45, 46, 47, 48, 49, 50, 51, 52, 53, 54, 55, 56, 57, 58, 59, 60, 61, 62, 63, 64, 65, 66, 67, 68, 69] (fun vi L => ∃ (a : Nat) (Q1 : Option Addr) (q1 : Nat), vi = [.int .i64 (inK m eye b (outK m eye b) a).1, .int .i64 (inK m eye b (outK m eye b) a).2.1, .slice Q1 (inK m eye b (outK m eye b) a).2.2.1.length q1, .int .i64 (inK m eye b (outK m eye b) a).2.2.2, .int .i64 (a : Int)] ∧ L = [K.row (.slice Q1 (inK m eye b (outK m eye b) a).2.2.1.length q1) 3 1 (inK m eye b (outK m eye b) a).2.2.1.length ((inK m eye b (outK m eye b) a).2.2.1.flatMap K.eI), K.blk q 108 (mdl m A B C c d e), K.blk b2 30 [.int .i64 m.W, .int .i64 m.D, .slice A m.hs.length c, .slice B m.ps.length d, .slice C m.ss.length e]] ∧ (a : Int) ≤ m.W + 2) (fun vi => (m.W + 2).toNat - (intOf (K.nth vi 4)).toNat) ?_ ?_
  ·exact ⟨0, Q1, q1, rfl, rfl, by omega⟩
  intro vi vr L hJ
  obtain ⟨a, Q1, q1, rfl, rfl, han⟩ := hJ
  have hok2 := inK_ok (eye := eye) (b := b) hok a
  unfold AccOK at hok2
  refine zY ?_
  refine sr (qp (K.lss rfl rfl) ?_)
  refine sn (K.seq ?_)
  refine K.cond rfl (fun ht38 => ?_) (fun ht38 => ?_)
  ·try replace ht38 := Kq.oT ht38
   have haW : (a : Int) < m.W + 2 := by omega
   refine K.skip (K.dA (K.seq (K.block (sr (qm ?_)))))
   refine qa ?_
   refine sn (sr (qm ?_))
   refine qp (K.oB rfl rfl (by omega)) ?_
   refine qm ?_
   refine qp (K.oB rfl rfl (by omega)) ?_
   refine K.mA (K.build (bl80 _ _)) rfl ?_
   refine zN ?_
   refine qn (K.alloc zr_110) fun b12 => ?_
   refine qt (K.vA sz_110 rfl rfl rfl rfl (K.rp0)) ?_
   refine sn (K.seq (sr (ql (K.jA cC rfl (K.m3) rfl) ?_)))
   refine ql (K.jA ag_110 rfl (K.m0) rfl) ?_
   refine qc (K.nA cal_80 (fun F w hF hw => c56 g.w g.d)) ?_
   refine sn ?_
   refine K.cond rfl (fun ht47 => ?_) (fun ht47 => ?_)
   ·try replace ht47 := Kq.oT ht47
    refine K.exit (K.pA (K.zA (K.dA (K.gA (qp (K.tA rfl rfl (by omega)) ?_)))))
    refine qm ?_
    refine K.lA ?_
    have hin : inK m eye b (outK m eye b) (a + 1) = inK m eye b (outK m eye b) a := bstep_on ht47
    exact K.rA (L'' := [K.row (.slice Q1 (inK m eye b (outK m eye b) a).2.2.1.length q1) 3 1 (inK m eye b (outK m eye b) a).2.2.1.length ((inK m eye b (outK m eye b) a).2.2.1.flatMap K.eI), K.blk q 108 (mdl m A B C c d e), K.blk b2 30 [.int .i64 m.W, .int .i64 m.D, .slice A m.hs.length c, .slice B m.ps.length d, .slice C m.ss.length e]]) [.int .i64 (inK m eye b (outK m eye b) a).1, .int .i64 (inK m eye b (outK m eye b) a).2.1, .slice Q1 (inK m eye b (outK m eye b) a).2.2.1.length q1, .int .i64 (inK m eye b (outK m eye b) a).2.2.2, .int .i64 ((a : Int) + 1)] ⟨a + 1, Q1, q1, by rw [hin]; rfl, by rw [hin], by omega⟩ (by simp [K.nth, intOf]; omega) (by repeat (first | exact List.Sublist.refl _ | apply List.Sublist.cons)) (by kernel_rfl)
   try replace ht47 := Kq.oF ht47
   refine K.skip (K.dA (K.seq ?_))
   refine K.nB [] uA ?_
   refine dp 0 rfl (K.move) ?_
   refine dp 1 rfl (K.move) ?_
   refine dp 2 rfl (K.nilCheck rfl) ?_
   refine dp 3 rfl (K.aA fo_108_1 rfl) ?_
   refine dm 4 rfl (K.jA pC rfl (K.m2) rfl) ?_
   refine dm 5 rfl (K.jA ag_110 rfl (K.m0) rfl) ?_
   refine dp 6 rfl (K.move) ?_
   refine K.kB 7 rfl (K.nA cal_51 (fun F w hF hw => c69 (l := ownS m) (K.PtrL.now hw (hF _ (K.m2))) (K.blk_lt hw (hF _ (K.m2))) (hP.pass hw) g g.lb (by omega) (by omega) (by omega))) (fun _ h => h) (by kernel_rfl) rfl ?_
   refine zN ?_
   refine dp 8 rfl (K.assign) ?_
   refine dd (K.dA (sr (qm ?_)))
   refine K.mA (K.Pure.eq (K.conv_int ik_3 ik_148 rfl) (show _ = Value.int .u64 (setN (seesB m (ownS m) ((a : Int) - 1) ((b : Int) - 1) eye) m.ps.length) from by rw [IntWalk.u64_in _ (by have := setN_63 (p := seesB m (ownS m) ((a : Int) - 1) ((b : Int) - 1) eye) g.n; omega)])) rfl ?_
   refine zN ?_
   refine qc (K.nA cal_81 (fun F w hF hw => (by have hh := c80 (x := (setN (seesB m (ownS m) ((a : Int) - 1) ((b : Int) - 1) eye) m.ps.length)) (setN_63 g.n) w; rw [bits_set g.n] at hh; exact hh))) ?_
   refine qa ?_
   refine sn (sr ?_)
   iterate 2 refine qm ?_
   refine qp (K.gtr rfl rfl) ?_
   refine sn ?_
   refine K.cond rfl (fun ht61 => ?_) (fun ht61 => ?_)
   ·try replace ht61 := Kq.oT ht61
    refine K.nB [] uA ?_
    refine dp 0 rfl (K.aA fo_110_0 rfl) ?_
    refine dm 1 rfl (K.fA one_3 rfl (K.m0) rfl) ?_
    refine dp 2 rfl (K.aA fo_110_1 rfl) ?_
    refine dm 3 rfl (K.fA one_3 rfl (K.m0) rfl) ?_
    refine dp 4 rfl (K.move) ?_
    refine dp 6 rfl (K.move) ?_
    refine K.d_loud 5 rfl (K.lB cal_50 (fun F w hF hw => (by have hh := c68 (hT.pass hw) (s := (setN (seesB m (ownS m) ((a : Int) - 1) ((b : Int) - 1) eye) m.ps.length)) (setN_63 g.n); rw [bits_set g.n] at hh; exact hh))) (fun _ h => h) (by kernel_rfl) rfl ?_
    rintro ⟨Q2, q2⟩ hq2
    refine zN ?_
    refine dp 7 rfl (K.assign) ?_
    refine dp 8 rfl (K.assign) ?_
    refine dp 9 rfl (K.assign) ?_
    refine dp 10 rfl (K.assign) ?_
    refine dd (K.kA (K.dA (K.gA (qp (K.tA rfl rfl (by omega)) ?_))))
    refine qm ?_
    refine K.lA ?_
    have hin : inK m eye b (outK m eye b) (a + 1) = (((a : Int) - 1), ((b : Int) - 1), (fromL m ((a : Int) - 1) ((b : Int) - 1) eye), ((fromL m ((a : Int) - 1) ((b : Int) - 1) eye).length : Int)) := bstep_gt ht47 ht61
    exact K.rA (L'' := [K.row (.slice Q2 (fromL m ((a : Int) - 1) ((b : Int) - 1) eye).length q2) 3 1 (fromL m ((a : Int) - 1) ((b : Int) - 1) eye).length ((fromL m ((a : Int) - 1) ((b : Int) - 1) eye).flatMap K.eI), K.blk q 108 (mdl m A B C c d e), K.blk b2 30 [.int .i64 m.W, .int .i64 m.D, .slice A m.hs.length c, .slice B m.ps.length d, .slice C m.ss.length e]]) [.int .i64 ((a : Int) - 1), .int .i64 ((b : Int) - 1), .slice Q2 (fromL m ((a : Int) - 1) ((b : Int) - 1) eye).length q2, .int .i64 ((fromL m ((a : Int) - 1) ((b : Int) - 1) eye).length : Int), .int .i64 ((a : Int) + 1)] ⟨a + 1, Q2, q2, by rw [hin]; rfl, by rw [hin], by omega⟩ (by simp [K.nth, intOf]; omega) (Kq.sc (by repeat (first | exact List.Sublist.refl _ | apply List.Sublist.cons))) (by kernel_rfl)
   try replace ht61 := Kq.oF ht61
   refine K.skip (K.kA (K.dA (K.gA (qp (K.tA rfl rfl (by omega)) ?_))))
   refine qm ?_
   refine K.lA ?_
   have hin : inK m eye b (outK m eye b) (a + 1) = inK m eye b (outK m eye b) a := bstep_le ht47 ht61
   exact K.rA (L'' := [K.row (.slice Q1 (inK m eye b (outK m eye b) a).2.2.1.length q1) 3 1 (inK m eye b (outK m eye b) a).2.2.1.length ((inK m eye b (outK m eye b) a).2.2.1.flatMap K.eI), K.blk q 108 (mdl m A B C c d e), K.blk b2 30 [.int .i64 m.W, .int .i64 m.D, .slice A m.hs.length c, .slice B m.ps.length d, .slice C m.ss.length e]]) [.int .i64 (inK m eye b (outK m eye b) a).1, .int .i64 (inK m eye b (outK m eye b) a).2.1, .slice Q1 (inK m eye b (outK m eye b) a).2.2.1.length q1, .int .i64 (inK m eye b (outK m eye b) a).2.2.2, .int .i64 ((a : Int) + 1)] ⟨a + 1, Q1, q1, by rw [hin]; rfl, by rw [hin], by omega⟩ (by simp [K.nth, intOf]; omega) (by repeat (first | exact List.Sublist.refl _ | apply List.Sublist.cons)) (by kernel_rfl)
  try replace ht38 := Kq.oF ht38
  refine K.exit (K.pA (K.pA (K.zA (K.kA (K.dA (K.gA (qp (K.tA rfl rfl (by omega)) ?_)))))))
  refine qm ?_
  refine K.lA ?_
  have hout : outK m eye (b + 1) = inK m eye b (outK m eye b) a := by rw [outK, show (m.W + 2).toNat = a by omega]
  exact K.rA (L'' := [K.row (.slice Q1 (inK m eye b (outK m eye b) a).2.2.1.length q1) 3 1 (inK m eye b (outK m eye b) a).2.2.1.length ((inK m eye b (outK m eye b) a).2.2.1.flatMap K.eI), K.blk q 108 (mdl m A B C c d e), K.blk b2 30 [.int .i64 m.W, .int .i64 m.D, .slice A m.hs.length c, .slice B m.ps.length d, .slice C m.ss.length e]]) [.int .i64 (inK m eye b (outK m eye b) a).1, .int .i64 (inK m eye b (outK m eye b) a).2.1, .slice Q1 (inK m eye b (outK m eye b) a).2.2.1.length q1, .int .i64 (inK m eye b (outK m eye b) a).2.2.2, .int .i64 ((b : Int) + 1)] ⟨b + 1, Q1, q1, by rw [hout]; rfl, by rw [hout], by omega⟩ (by simp [K.nth, intOf]; omega) (by repeat (first | exact List.Sublist.refl _ | apply List.Sublist.cons)) (by kernel_rfl)
 try replace ht32 := Kq.oF ht32
 refine K.exit (K.pA (K.pA (K.zA (K.dA (sr ?_)))))
 iterate 3 refine qm ?_
 iterate 4 refine qa ?_
 refine sn (K.ret ?_)
 refine K.wA (fun w _ => K.res_t4 rfl w) ?_
 have e0 : b = (m.D + 2).toNat := by omega
 subst e0
 exact K.iC K.m0 (fun hQ => K.rets_v (Q1, q1) hQ rfl rfl (Kq.sc (List.nil_sublist _)))

theorem c30 {m : Mod} {A B C : Option Addr} {c d e : Nat} {eye : Int} {w : World} (hH : K.Rd w A 1 K.eI m.hs) (hP : K.Rd w B 5 eN m.ps) (hS : K.Rd w C 4 eS m.ss) (hn : m.hs.length ≤ 4611686018427387904) (hm : m.ps.length ≤ 4611686018427387904) (hk : m.ss.length ≤ 4611686018427387904) (hcd : m.ps.length ≤ d) (hT : Tab w) : Calls Tryz.prog 42 [.agg #[.int .i64 m.W, .int .i64 m.D, .slice A m.hs.length c, .slice B m.ps.length d, .slice C m.ss.length e], .int .i64 eye].toArray w (K.Ret (fun r : Option Addr × Nat => (bestR m eye).2.2.length = 0 ∨ ∃ b, r.1 = some ⟨b, 0, none⟩) (fun r => .tuple #[.int .i64 (bestR m eye).1, .int .i64 (bestR m eye).2.1, .slice r.1 (bestR m eye).2.2.length r.2, .int .i64 (bestE m eye)]) (fun r => [K.row (.slice r.1 (bestR m eye).2.2.length r.2) 3 1 (bestR m eye).2.2.length ((bestR m eye).2.2.flatMap K.eI)]) w) := by
 by_cases hc : (chk m).2.2 = 0
 ·by_cases hey : 0 ≤ eye ∧ eye ≤ 2000
  ·exact g30 hH hP hS hn hm hk hcd hT hc hey
  ·exact f30 hH hP hS hn hm hk hcd hc hey
 ·exact e30 hH hP hS hn hm hk hcd hc


end Go.Proofs.YtnhhfkgldoeifaaGreatDoor.Pn
end
section
namespace Go.Proofs.YtnhhfkgldoeifaaGreatDoor.Pn
open Go.RowKit Go
open Go.K (setd setn ev nth over cl eI eP eT setM setF)
attribute [local irreducible] K.blk K.row

theorem bit_dec {s k : Nat} (hs : s < 64) (hk : k < 6) : decide (IntKind.i64.wrap (BitVec.ofInt IntKind.i64.bits (((s : Nat) : Int).fdiv (2 ^ min (Int.toNat ((k : Nat) : Int)) IntKind.i64.bits)) &&& BitVec.ofInt IntKind.i64.bits 1).toNat = 0) = !s.testBit k := by
 rw [bit_val hs hk]
 cases s.testBit k <;> rfl
theorem all_f {m : Mod} {j : Nat} (hj : j < m.ss.length) (h : (List.range m.ps.length).all (sureB m j) = false) : allB m = false := by
 unfold allB
 exact List.all_eq_false.2 ⟨j, List.mem_range.2 hj, by simp [h]⟩
theorem all_t {m : Mod} (h : ∀ i, i < m.ss.length → (List.range m.ps.length).all (sureB m i) = true) : allB m = true := by
 unfold allB
 exact List.all_eq_true.2 (fun i hi => h i (List.mem_range.1 hi))
theorem ne_dec (a b : Int) : decide (a ≠ b) = !decide (a = b) := by by_cases h : a = b <;> simp [h]


set_option maxRecDepth 100000 in
set_option maxHeartbeats 1000000 in
theorem c85 {m : Mod} {A B C : Option Addr} {c d e : Nat} {s : Nat} {p1 : Addr} {w : World} (hT : Tab w) (h1 : K.PtrL w [] p1 [.int .i64 m.W, .int .i64 m.D, .slice A m.hs.length c, .slice B m.ps.length d, .slice C m.ss.length e]) (hH : K.Rd w A 1 K.eI m.hs) (hP : K.Rd w B 5 eN m.ps) (hS : K.Rd w C 4 eS m.ss) (hn : m.hs.length ≤ 4611686018427387904) (hm : m.ps.length ≤ 4611686018427387904) (hk : m.ss.length ≤ 4611686018427387904) (hc : (chk m).2.2 = 0) (hs : s < 2 ^ m.ps.length) :
  Calls Tryz.prog 83 [.int .i64 (s : Int), .pointer (some p1)].toArray w (K.Gives (.bool (allB (lessM m s))) w) := by
 have g : Good m := chk_good hc
 have hgn := g.n
 have hgk := g.k
 have hpb := pow_bd g.n
 have hcl : chk (lessM m s) = (0, 0, 0) := chk_e0 (chk_less hc less_sub)
 have gl : Good (lessM m s) := chk_good (by rw [hcl])
 have hll := less_len (m := m) (s := s) (k := m.ps.length)
 have hnl : (lessM m s).ps.length = (lessP m s m.ps.length).length := rfl
 refine K.enter (args := [.int .i64 (s : Int), .pointer (some p1)]) Tryz.func83 rfl (n := 63) rfl ?_
 refine zR ?_
 refine sr (qa ?_)
 refine sn (sr (ql (K.uB cC rfl (h1.any) rfl) ?_))
 refine qn (K.alloc zr_30) fun b4 => ?_
 refine qt (K.vA sz_30 rfl rfl rfl rfl (K.rp0)) ?_
 refine sn (sr (qp (K.aA bC rfl) ?_))
 refine qt (K.store sz_27 rfl rfl rfl rfl (K.rp0)) ?_
 refine sn (K.seq (sr ?_))
 refine K.jC (e := 48) (size := 5) ?_
 refine qp (K.fieldAddr bC rfl) ?_
 refine ql (K.load1 lC rfl ((K.PtrL.fld h1 (k := 3)).any)) ?_
 refine qp (K.aB oC rfl) ?_
 refine qm ?_
 refine sn (K.block ?_)
 refine K.loopW [16] [5, 6, 17, 18, 19, 20, 21, 22, 23, 24, 25, 26, 27, 28, 29, 30, 31, 32] (fun vi L => ∃ (k : Nat) (Q1 : Option Addr) (q1 : Nat), vi = [.int .i64 (k : Int)] ∧ L = [K.row (.slice Q1 (lessP m s k).length q1) 48 5 (lessP m s k).length ((lessP m s k).flatMap eN), K.blk b4 30 [.int .i64 m.W, .int .i64 m.D, .slice A m.hs.length c, .slice Q1 (lessP m s k).length q1, .slice C m.ss.length e]] ∧ k ≤ m.ps.length) (fun vi => m.ps.length - (intOf (K.nth vi 0)).toNat) ?_ ?_
 ·exact ⟨0, none, 0, rfl, rfl, Nat.zero_le _⟩
 intro vi vr L hJ
 obtain ⟨k, Q1, q1, rfl, rfl, hkn⟩ := hJ
 refine zY ?_
 refine sr (qp (K.lss rfl rfl) ?_)
 refine sn (K.seq ?_)
 refine K.cond rfl (fun ht17 => ?_) (fun ht17 => ?_)
 ·try replace ht17 := Kq.oT ht17
  have hk : k < m.ps.length := by omega
  have hlk := less_len (m := m) (s := s) (k := k)
  refine K.skip (K.dA (K.seq (K.block (sr (qm ?_)))))
  refine K.vB (M := []) _ hP.sl oC rfl rfl rfl (by omega) rfl ?_
  intro p19 hp19
  refine zN ?_
  refine ql (K.uB ag_48 rfl (hp19.any) rfl) ?_
  refine qn (K.alloc zr_48) fun b6 => ?_
  refine qa ?_
  refine qt (K.vA sz_48 rfl rfl rfl rfl (K.rp0)) ?_
  refine sn (sr ?_)
  iterate 2 refine qm ?_
  refine qp (K.shr_int rfl rfl (by omega)) ?_
  refine qp (K.and_int rfl rfl) ?_
  refine qp (K.Pure.eq (K.eql rfl rfl) (show _ = Value.bool (!s.testBit k) from by rw [bit_dec (by omega) (by omega)])) ?_
  refine sn ?_
  refine K.cond rfl (fun ht25 => ?_) (fun ht25 => ?_)
  ·try replace ht25 := Kq.oT ht25
   refine K.gA (qp (K.aA bC rfl) ?_)
   refine ql (K.fA lC rfl (K.m2) rfl) ?_
   refine ql (K.jA ag_48 rfl (K.m0) rfl) ?_
   refine qn (K.buildSlice (bs23 _ _ _ _ _)) fun b29 => ?_
   refine K.xB (K.append el_27 rfl rfl (K.PtrL.own' (K.m0)) rfl rfl (by decide) (by omega) (by omega) (fun _ _ => K.rp2)) rfl ?_
   rintro ⟨g30, c30⟩ _
   refine zN ?_
   refine qp (K.aA bC rfl) ?_
   refine qt (K.store sz_27 rfl rfl rfl rfl (K.rp3)) ?_
   refine K.lA (K.kA (K.dA (K.gA (qp (K.tA rfl rfl (by omega)) ?_))))
   refine qm ?_
   refine K.lA ?_
   have hle := less_yes (m := m) (s := s) (k := k) (by simpa using ht25)
   exact K.rA (L'' := [K.row (.slice (some ⟨g30, 0, none⟩) ((lessP m s k).length + 1) c30) 48 5 ((lessP m s k).length + 1) ((lessP m s k).flatMap eN ++ [.string (m.ps.getD k default).nm, .int .i64 (m.ps.getD k default).x, .int .i64 (m.ps.getD k default).y, .int .i64 (m.ps.getD k default).len, .int .i64 (m.ps.getD k default).most]), K.blk b4 30 [.int .i64 m.W, .int .i64 m.D, .slice A m.hs.length c, .slice (some ⟨g30, 0, none⟩) ((lessP m s k).length + 1) c30, .slice C m.ss.length e]]) [.int .i64 ((k : Int) + 1)] ⟨k + 1, some ⟨g30, 0, none⟩, c30, rfl, by rw [hle, List.length_append, List.flatMap_append]; rfl, by omega⟩ (by simp [K.nth, intOf]; omega) (by repeat (first | exact List.Sublist.refl _ | apply List.Sublist.cons)) (by kernel_rfl)
  try replace ht25 := Kq.oF ht25
  refine K.skip (K.kA (K.dA (K.gA (qp (K.tA rfl rfl (by omega)) ?_))))
  refine qm ?_
  refine K.lA ?_
  have hle := less_no (m := m) (s := s) (k := k) (by simpa using ht25)
  exact K.rA (L'' := [K.row (.slice Q1 (lessP m s k).length q1) 48 5 (lessP m s k).length ((lessP m s k).flatMap eN), K.blk b4 30 [.int .i64 m.W, .int .i64 m.D, .slice A m.hs.length c, .slice Q1 (lessP m s k).length q1, .slice C m.ss.length e]]) [.int .i64 ((k : Int) + 1)] ⟨k + 1, Q1, q1, rfl, by rw [hle], by omega⟩ (by simp [K.nth, intOf]; omega) (by repeat (first | exact List.Sublist.refl _ | apply List.Sublist.cons)) (by kernel_rfl)
 try replace ht17 := Kq.oF ht17
 refine K.exit (K.pA (K.pA (K.zA (K.dA (K.seq ?_)))))
 have e0 : k = m.ps.length := by omega
 subst e0
 refine K.use_rowc K.m0 (fun hQ hqc => ?_)
 refine K.gA (ql (K.jA cC rfl (K.m1) rfl) ?_)
 refine K.gB (K.lB cal_48 (fun F w hF hw => (by have hrw := K.Rd.own (e := eN) hw (hF _ (K.m0)) hQ eN_len (by decide); exact g67 (m := (lessM m s)) (A := A) (B := Q1) (C := C) (c := c) (d := q1) (e := e) (hH.pass hw) hrw (hS.pass hw) hn (by omega) hk hqc hcl))) rfl ?_
 rintro q _
 refine zN ?_
 refine qm ?_
 iterate 2 refine qx ?_
 iterate 2 refine qa ?_
 refine sn (K.seq (sr (qp (K.fieldAddr fo_30_4 rfl) ?_)))
 refine ql (K.load1 one_28 rfl ((K.PtrL.fld h1 (k := 4)).any)) ?_
 refine qp (K.aB tC rfl) ?_
 refine qm ?_
 refine sn (K.block ?_)
 refine K.loopW [41] [3, 9, 10, 42, 43, 44, 45, 46, 47, 48, 49, 50, 51, 52, 53, 54, 55, 56, 57, 58, 59, 60, 61, 62, 63, 64] (fun vi L => ∃ j : Nat, vi = [.int .i64 (j : Int)] ∧ L = [K.blk q 108 (mdl (lessM m s) A Q1 C c q1 e), K.row (.slice Q1 (lessP m s m.ps.length).length q1) 48 5 (lessP m s m.ps.length).length ((lessP m s m.ps.length).flatMap eN), K.blk b4 30 [.int .i64 m.W, .int .i64 m.D, .slice A m.hs.length c, .slice Q1 (lessP m s m.ps.length).length q1, .slice C m.ss.length e]] ∧ j ≤ m.ss.length ∧ ∀ i, i < j → (List.range (lessM m s).ps.length).all (sureB (lessM m s) i) = true) (fun vi => m.ss.length - (intOf (K.nth vi 0)).toNat) ?_ ?_
 ·exact ⟨0, rfl, rfl, Nat.zero_le _, fun j hj => absurd hj (Nat.not_lt_zero j)⟩
 intro vi vr L hJ
 obtain ⟨j, rfl, rfl, hjn, hall⟩ := hJ
 refine zY ?_
 refine sr (qp (K.lss rfl rfl) ?_)
 refine sn (K.seq ?_)
 refine K.cond rfl (fun ht42 => ?_) (fun ht42 => ?_)
 ·try replace ht42 := Kq.oT ht42
  have hj : j < m.ss.length := by omega
  have hst := g.st hj
  have hst2 := gl.st (s := j) hj
  refine K.skip (K.dA (K.seq (K.block (sr (qm ?_)))))
  refine K.vB (M := []) _ hS.sl tC rfl rfl rfl (by omega) rfl ?_
  intro p44 hp44
  refine zN ?_
  refine ql (K.uB ag_62 rfl (hp44.any) rfl) ?_
  refine qn (K.alloc zr_62) fun b10 => ?_
  refine qa ?_
  refine qt (K.vA sz_62 rfl rfl rfl rfl (K.rp0)) ?_
  refine sn (K.seq ?_)
  have hpb2 := pow_bd gl.n
  have hp0 : 0 ≤ ((2 ^ (lessM m s).ps.length : Nat) : Int) := Int.natCast_nonneg _
  refine K.nB [] uA ?_
  refine dp 0 rfl (K.move) ?_
  refine dp 1 rfl (K.move) ?_
  refine dp 2 rfl (K.nilCheck rfl) ?_
  refine dp 3 rfl (K.aA fo_108_1 rfl) ?_
  refine dm 4 rfl (K.jA pC rfl (K.m1) rfl) ?_
  refine dp 5 rfl (K.move) ?_
  refine dp 6 rfl (K.move) ?_
  refine dp 8 rfl (K.aA fo_62_2 rfl) ?_
  refine dp 9 rfl (K.aA fo_46_0 rfl) ?_
  refine dm 10 rfl (K.fA one_3 rfl (K.m0) rfl) ?_
  refine dp 12 rfl (K.aA bC rfl) ?_
  refine dm 13 rfl (K.fA lC rfl (K.m3) rfl) ?_
  refine dp 14 rfl (K.aB oC rfl) ?_
  refine dp 15 rfl (K.Pure.eq (K.shl_int rfl rfl (by omega)) (show _ = Value.int .i64 ((2 ^ (lessM m s).ps.length : Nat) : Int) from by rw [← hnl, shl_val gl.n])) ?_
  refine dp 16 rfl (K.oB rfl rfl (by omega)) ?_
  refine K.kB 7 rfl (K.nA cal_52 (fun F w hF hw => c64 (m := (lessM m s)) (K.PtrL.now hw (hF _ (K.m1))) (hS.pass hw) hj)) (fun _ h => h) (by kernel_rfl) rfl ?_
  refine zN ?_
  refine K.kB 11 rfl (K.nA cal_51 (fun F w hF hw => (by have hrw := K.Rd.own (e := eN) hw (hF _ (K.m2)) hQ eN_len (by decide); exact c69 (m := (lessM m s)) (l := ownS (lessM m s)) (K.PtrL.now hw (hF _ (K.m1))) (K.blk_lt hw (hF _ (K.m1))) hrw gl gl.lb (by omega) (by omega) (by omega)))) (fun _ h => h) (by kernel_rfl) rfl ?_
  refine zN ?_
  refine dp 17 rfl (K.Pure.eq (K.neq rfl rfl) (show _ = Value.bool (!((List.range (lessM m s).ps.length).all (sureB (lessM m s) j))) from by rw [← set_full gl.n]; exact congrArg Value.bool (ne_dec _ _))) ?_
  refine dd (K.dA ?_)
  refine K.cond rfl (fun ht63 => ?_) (fun ht63 => ?_)
  ·try replace ht63 := Kq.oT ht63
   refine sr (qa ?_)
   refine sn (K.ret (K.qA (K.iA (K.iA (K.qA (K.iA (et ?_)))))))
   exact K.pB rfl (all_f (m := lessM m s) hj (by simpa using ht63)).symm
  try replace ht63 := Kq.oF ht63
  refine K.skip (K.kA (K.dA (K.gA (qp (K.tA rfl rfl (by omega)) ?_))))
  refine qm ?_
  refine K.lA ?_
  exact K.rA (L'' := [K.blk q 108 (mdl (lessM m s) A Q1 C c q1 e), K.row (.slice Q1 (lessP m s m.ps.length).length q1) 48 5 (lessP m s m.ps.length).length ((lessP m s m.ps.length).flatMap eN), K.blk b4 30 [.int .i64 m.W, .int .i64 m.D, .slice A m.hs.length c, .slice Q1 (lessP m s m.ps.length).length q1, .slice C m.ss.length e]]) [.int .i64 ((j : Int) + 1)] ⟨j + 1, rfl, rfl, by omega, K.fB hall (by simpa using ht63)⟩ (by simp [K.nth, intOf]; omega) (by repeat (first | exact List.Sublist.refl _ | apply List.Sublist.cons)) (by kernel_rfl)
 try replace ht42 := Kq.oF ht42
 refine K.exit (K.pA (K.pA (K.zA (K.dA (sr (qa ?_))))))
 refine sn (K.ret (et ?_))
 exact K.pB rfl (all_t (m := lessM m s) (fun i hi => hall i (by have : (lessM m s).ss.length = m.ss.length := rfl; omega))).symm

set_option maxRecDepth 100000 in
theorem e34 {m : Mod} {A B C : Option Addr} {c d e : Nat} {w : World} (hH : K.Rd w A 1 K.eI m.hs) (hP : K.Rd w B 5 eN m.ps) (hS : K.Rd w C 4 eS m.ss) (hn : m.hs.length ≤ 4611686018427387904) (hm : m.ps.length ≤ 4611686018427387904) (hk : m.ss.length ≤ 4611686018427387904) (hcd : m.ps.length ≤ d) (hc : (chk m).2.2 ≠ 0) :
  Calls Tryz.prog 43 [.agg #[.int .i64 m.W, .int .i64 m.D, .slice A m.hs.length c, .slice B m.ps.length d, .slice C m.ss.length e]].toArray w (K.RetSE 3 1 K.eI (offL m) ((chk m).2.2) w) := by
 refine K.enter (args := [.agg #[.int .i64 m.W, .int .i64 m.D, .slice A m.hs.length c, .slice B m.ps.length d, .slice C m.ss.length e]]) Tryz.func43 rfl (n := 24) rfl ?_
 refine zR ?_
 refine sr ?_
 refine qn (K.box) fun b1 => ?_
 iterate 2 refine qa ?_
 refine sn (K.seq (sr (ql (K.jA cC rfl (K.m0) rfl) ?_)))
 refine qc (K.nA cal_48 (fun F w hF hw => e67 (hH.pass hw) (hP.pass hw) (hS.pass hw) hn hm hk hcd hc)) ?_
 refine qm ?_
 iterate 2 refine qx ?_
 iterate 2 refine qa ?_
 refine sn (sr (qm ?_))
 refine qp (K.neq rfl rfl) ?_
 refine sn (K.yA (by exact congrArg Value.bool (decide_eq_true hc)) ?_)
 refine sr (qm ?_)
 iterate 2 refine qa ?_
 refine sn (K.ret (K.iA ?_))
 refine K.wA (fun w _ => K.qB rfl w) ?_
 exact K.rets_se0 (by unfold offL; rw [if_pos hc]) rfl rfl

set_option maxRecDepth 100000 in
theorem g34 {m : Mod} {A B C : Option Addr} {c d e : Nat} {w : World} (hH : K.Rd w A 1 K.eI m.hs) (hP : K.Rd w B 5 eN m.ps) (hS : K.Rd w C 4 eS m.ss) (hn : m.hs.length ≤ 4611686018427387904) (hm : m.ps.length ≤ 4611686018427387904) (hk : m.ss.length ≤ 4611686018427387904) (hcd : m.ps.length ≤ d) (hT : Tab w) (hc : (chk m).2.2 = 0) :
  Calls Tryz.prog 43 [.agg #[.int .i64 m.W, .int .i64 m.D, .slice A m.hs.length c, .slice B m.ps.length d, .slice C m.ss.length e]].toArray w (K.RetSE 3 1 K.eI (offL m) ((chk m).2.2) w) := by
 have g : Good m := chk_good hc
 refine K.enter (args := [.agg #[.int .i64 m.W, .int .i64 m.D, .slice A m.hs.length c, .slice B m.ps.length d, .slice C m.ss.length e]]) Tryz.func43 rfl (n := 24) rfl ?_
 refine zR ?_
 refine sr ?_
 refine qn (K.box) fun b1 => ?_
 iterate 2 refine qa ?_
 refine sn (K.seq (sr (ql (K.jA cC rfl (K.m0) rfl) ?_)))
 refine K.gB (K.lB cal_48 (fun F w hF hw => g67 (hH.pass hw) (hP.pass hw) (hS.pass hw) hn hm hk hcd (chk_e0 hc))) rfl ?_
 rintro q _
 refine zN ?_
 refine qm ?_
 iterate 2 refine qx ?_
 iterate 2 refine qa ?_
 refine sn (sr (qm ?_))
 refine qp (K.neq rfl rfl) ?_
 refine sn (K.oA (by rfl) ?_)
 refine K.skip (K.dA (sr (qp (K.aA bC rfl) ?_)))
 refine ql (K.fA lC rfl (K.m1) rfl) ?_
 refine qp (K.aB oC rfl) ?_
 refine K.mA (K.mkFunc) rfl ?_
 refine zN ?_
 refine K.gB (K.lB cal_82 (fun F w hF hw => c82 (gf := 83) (cap := [.pointer (some ⟨b1, 0, none⟩)]) (p := fun s => allB (lessM m s)) (hT.pass hw) g.n cal_83 (fun s hs w1 hb => (by have hp1 := K.PtrL.pass hw (hF _ (K.m1)) hb; exact c85 (A := A) (B := B) (C := C) (c := c) (d := d) (e := e) (Tab.later (hT.pass hw) hb) hp1 ((hH.pass hw).later hb) ((hP.pass hw).later hb) ((hS.pass hw).later hb) hn hm hk hc hs)))) rfl ?_
 rintro ⟨Q3, q3⟩ hq3
 refine zN ?_
 refine qm ?_
 iterate 2 refine qx ?_
 iterate 2 refine qa ?_
 refine sn (sr (qm ?_))
 iterate 2 refine qa ?_
 refine sn (K.ret ?_)
 refine K.wA (fun w _ => K.qB rfl w) ?_
 have hl : offL m = (offM m).getD [] := by unfold offL; rw [if_neg (by omega)]
 rw [hl, hc]
 exact K.rets_se K.m0 rfl rfl rfl rfl

theorem c34 {m : Mod} {A B C : Option Addr} {c d e : Nat} {w : World} (hH : K.Rd w A 1 K.eI m.hs) (hP : K.Rd w B 5 eN m.ps) (hS : K.Rd w C 4 eS m.ss) (hn : m.hs.length ≤ 4611686018427387904) (hm : m.ps.length ≤ 4611686018427387904) (hk : m.ss.length ≤ 4611686018427387904) (hcd : m.ps.length ≤ d) (hT : Tab w) : Calls Tryz.prog 43 [.agg #[.int .i64 m.W, .int .i64 m.D, .slice A m.hs.length c, .slice B m.ps.length d, .slice C m.ss.length e]].toArray w (K.RetSE 3 1 K.eI (offL m) ((chk m).2.2) w) := by
 by_cases hc : (chk m).2.2 = 0
 ·exact g34 hH hP hS hn hm hk hcd hT hc
 ·exact e34 hH hP hS hn hm hk hcd hc


end Go.Proofs.YtnhhfkgldoeifaaGreatDoor.Pn
end
