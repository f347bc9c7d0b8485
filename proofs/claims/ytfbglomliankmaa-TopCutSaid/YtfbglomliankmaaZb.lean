/-
  Lemmas and walks of functions, joined and with only what the claim needs.
  Conditions stand in each theorem.
-/
import Derived.Test.YtfbglomliankmaaProg
import Derived.Test.YtfbglomliankmaaRows
import Derived.Below
import Derived.Laws.AppendOwn
import Derived.Laws.Rows
import Derived.Laws.Slices
import Derived.Tactics
import Derived.OrdersHeld
import Derived.KernelRfl
import Derived.WalkKit
import Derived.Deep.AppendLies
import Derived.IntWalk
import Derived.Scope
import Derived.WalkSpells
import Derived.DeepKeys
import Derived.Deep.Upon
import Derived.Laws.Small
import Derived.RangeFuncLeaves
import Derived.RangeFuncSeq
import Derived.OrdersIn
import Derived.Sort.LoopGhostIn
import Derived.TacticsIn
import Derived.RangeFuncOwn
import Derived.WideKeyMaps
import Derived.DeepKeys4
import Derived.Carry
import Derived.Laws.CopyRow
import Derived.Laws.MakeOwn
import Derived.WalkArith
import Derived.Laws.Closers25b
import Derived.ProofKit
import Derived.OpenShut
import Derived.ChangeOld
import Derived.SizedLaws
import Derived.Deep.Slices
import Derived.Deep.Fields
import Derived.ChangeSame
import Derived.Lib.SmallJoins
import Derived.Test.YtfbglomliankmaaZa
section
set_option linter.unusedSimpArgs false
set_option linter.unusedVariables false
namespace Go.R
open Go.RowKit Go.K
def setP : List Value → List Tmp → List Value → List Value
  | l, p :: ps, v :: vs => setP (setn l p v) ps vs
  | l, _, _ => l
theorem setP_arr : ∀ (l : List Value) (ps : List Tmp) (vs : List Value), (ps.toArray.zip vs.toArray).foldl (fun tmps (t, a) => tmps.setIfInBounds t a) l.toArray = (setP l ps vs).toArray := by
  intro l ps vs
  have h : ∀ (l : List Value) (zs : List (Tmp × Value)), zs.foldl (fun tmps (z : Tmp × Value) => tmps.setIfInBounds z.1 z.2) l.toArray = (zs.foldl (fun l (z : Tmp × Value) => setn l z.1 z.2) l).toArray := by
    intro l zs
    induction zs generalizing l with
    | nil => rfl
    | cons z zs ih => simp only [List.foldl_cons]; rw [← ih]; simp [setn_eq]
  have h2 : ∀ (l : List Value) (ps : List Tmp) (vs : List Value), (ps.zip vs).foldl (fun l (z : Tmp × Value) => setn l z.1 z.2) l = setP l ps vs := by
    intro l ps
    induction ps generalizing l with
    | nil => intro vs; simp [setP]
    | cons p ps ih =>
      intro vs
      cases vs with
      | nil => simp [setP]
      | cons v vs => simp only [List.zip_cons_cons, List.foldl_cons, setP]; exact ih _ _
  rw [← h2, ← h, List.zip_toArray, List.foldl_toArray]
def RoundOK2 {α : Type} (P : Program) (lr : Nat) (enc : α → List Value) (XS : List α) (J Jx : Nat → (Nat → Prop) → World → Prop) : Prop :=
  ∀ k x f w, XS[k]? = some x → J k f w → YieldAt (fen none) 0 P lr (enc x).toArray w fun e w' => ∃ f', Grew f w f' ∧ Kept f w w' ∧ (∀ i, f' i → i < w'.heap.size) ∧ ((e = .returned (.bool true) ∧ J (k + 1) f' w') ∨ (e = .returned (.bool false) ∧ Jx (k + 1) f' w'))
structure BelowX (B b : Nat) (w w' : World) : Prop where
  os : w'.os = w.os
  tape : w'.tape = w.tape
  output : w'.output = w.output
  size : w.heap.size ≤ w'.heap.size
  block : ∀ k, k < B → k ≠ b → w'.heap[k]? = w.heap[k]?
theorem BelowX.of {B b : Nat} {w w' : World} (h : Below B w w') : BelowX B b w w' := ⟨h.os, h.tape, h.output, h.size, fun k hk _ => h.block k hk⟩
theorem BelowX.trans {B b : Nat} {w w' w'' : World} (h : BelowX B b w w') (k : BelowX B b w' w'') : BelowX B b w w'' :=
  ⟨k.os.trans h.os, k.tape.trans h.tape, k.output.trans h.output, Nat.le_trans h.size k.size, fun i hi hn => (k.block i hi hn).trans (h.block i hi hn)⟩
theorem BelowX.mono {B B' b : Nat} {w w' : World} (h : BelowX B b w w') (hB : B' ≤ B) : BelowX B' b w w' := ⟨h.os, h.tape, h.output, h.size, fun k hk hn => h.block k (by omega) hn⟩
theorem BelowX.below {B B' b : Nat} {w w' : World} (h : BelowX B b w w') (hB : B' ≤ B) (hb : B' ≤ b) : Below B' w w' := ⟨h.os, h.tape, h.output, h.size, fun k hk => h.block k (by omega) (by omega)⟩
def StaysX (B b : Nat) (J : Nat → (Nat → Prop) → World → Prop) : Prop := ∀ k f w w', J k f w → BelowX B b w w' → (∀ i, f i → w'.heap[i]? = w.heap[i]?) → J k f w'
theorem StaysX.below {B b : Nat} {J : Nat → (Nat → Prop) → World → Prop} (h : StaysX B b J) {k : Nat} {f : Nat → Prop} {w w' : World} (hJ : J k f w) (hf : ∀ i, f i → i < w.heap.size) (hB : B ≤ w.heap.size) (hb : Below w.heap.size w w') : J k f w' :=
  h k f w w' hJ (.of (hb.mono hB)) (fun i hi => hb.block i (hf i hi))
def orb (f : Nat → Prop) (b : Nat) : Nat → Prop := fun i => f i ∨ i = b
theorem Keep.off {f : Nat → Prop} {w w' : World} {b : Nat} (h : ∀ i, i ≠ b → w'.heap[i]? = w.heap[i]?) : Keep (orb f b) w (orb f b) w' := fun i _ hn => ⟨hn, h i (fun e => hn (.inr e))⟩
def OwnR {E : Type} (f : Nat → Prop) (w : World) (A : Option Addr) (size : Nat) (e : E → List Value) (xs : List E) : Prop :=
  ∀ k x, xs[k]? = some x → ∃ a, A = some a ∧ a.block < w.heap.size ∧ ¬ f a.block ∧ ∀ j u, (e x)[j]? = some u → w.cell? ((a.add (k * size)).add j) = some u
theorem OwnR.rd {E : Type} {f : Nat → Prop} {w : World} {A : Option Addr} {size : Nat} {e : E → List Value} {xs : List E} (h : OwnR f w A size e xs) : Rd w A size e xs := fun k x hx => let ⟨a, h1, h2, _, h3⟩ := h k x hx; ⟨a, h1, h2, h3⟩
theorem OwnR.keep {E : Type} {f f' : Nat → Prop} {w w' : World} {A : Option Addr} {size : Nat} {e : E → List Value} {xs : List E} (h : OwnR f w A size e xs) (hk : Keep f w f' w') : OwnR f' w' A size e xs := fun k x hx => by
  obtain ⟨a, h1, h2, h3, h4⟩ := h k x hx
  obtain ⟨a1, a2⟩ := hk _ h2 h3
  refine ⟨a, h1, lt_of_same h2 a2, a1, fun j u hu => ?_⟩
  rw [← h4 j u hu]
  exact World.cell?_of_block (by rw [addr_block, addr_block]; exact a2)
theorem heap_ptr {w : World} {b : Nat} {t : TypeId} {cs : List Value} (h : w.heap[b]? = some (.cells cs.toArray t (0, 0))) : PtrL w [] ⟨b, 0, none⟩ cs :=
  PtrL.old (lt_of_some h) (fun j u hu => by
    rw [add_lit, Nat.zero_add, blk_cell (t := t) (cs := cs) (show (blk b t cs).holds w from h)]
    exact hu)
def IterX {α : Type} (P : Program) (g : FuncId) (first cap : List Value) (b : Nat) (pre : (Nat → Prop) → World → Prop) (enc : α → List Value) (XS : List α) : Prop :=
  ∀ (lr B : Nat) (J Jx : Nat → (Nat → Prop) → World → Prop) (f : Nat → Prop) (w : World), B ≤ w.heap.size → b < w.heap.size → StaysX B b J → StaysX B b Jx → (∀ k f w, J k f w → B ≤ w.heap.size) → (∀ k f w, Jx k f w → B ≤ w.heap.size) → (∀ i, f i → i < w.heap.size) → ¬ f b → RoundOK2 P lr enc XS J Jx → J 0 f w → pre f w →
    Calls P g (first ++ [Value.func (.yield lr) #[] #[]] ++ cap).toArray w fun e w' => (∃ v, e = .returned v) ∧ ((∃ f', J XS.length f' w') ∨ (∃ k f', k ≤ XS.length ∧ Jx k f' w'))
theorem rangeX {α : Type} {P : Program} {w0 : World} {L : List Chunk} {Q : Exit → Act → World → Prop} {l : List Value} {g : Operand} {ps : List Tmp} {assign body : Code} {gf : FuncId} {first cap : List Value} {pre : (Nat → Prop) → World → Prop} {enc : α → List Value} {XS : List α} {n : Nat} {D : List Deferred}
    (hg : ev l g = .func (.func gf) first.toArray cap.toArray) (hcal : callable P gf = true) (Lm F : List Chunk) {bx : Nat} {tx : TypeId} {cx : List Value} (hsp : ∀ w, St w0 L w → St w0 (Lm ++ (F ++ [blk bx tx cx])) w) (hF : ∀ c ∈ F, ∃ b t cs, c = blk b t cs) (hps : ∀ x, (enc x).length = ps.length) (hit : IterX P gf first cap bx pre enc XS) (hpre : ∀ f w, Free w0 F (orb f bx) w → w.heap[bx]? = some (.cells cx.toArray tx (0, 0)) → pre f w)
    (JL : Nat → List Chunk → Prop) (JX : Code → List Chunk → Prop) (h0 : JL 0 Lm)
    (round : ∀ k x L' lr E, XS[k]? = some x → (∀ b t cs, blk b t cs ∈ F → PtrL w0 [E] ⟨b, 0, none⟩ cs) → JL k L' → Hold w0 (L' ++ [E]) (assign.wpIn (fen (some lr)) 0 P (Exit.then (BodyC P w0 F JL JX k lr body E) (fun _ _ _ => False)) (frd [] (setP l ps (enc x)))))
    (done : ∀ b L', JL XS.length L' → Hold w0 (L' ++ (F ++ [dfr b])) (Q .normal (frd (mark b :: D) l)))
    (stop : ∀ b c L', JX c L' → Hold w0 (L' ++ (F ++ [dfr b])) (c.wpIn (fen none) n P Q (frd (mark b :: D) l))) :
    Hold w0 L ((Code.rangeFunc g ps.toArray assign body).wpIn (fen none) n P Q (frd D l)) := by
  intro w hw0
  have hwX := hsp w hw0
  have hw : St w0 (Lm ++ F) w := hwX.sub (List.Sublist.append (List.Sublist.refl _) (List.sublist_append_left _ _))
  have hbx0 : w0.heap.size ≤ bx := (hwX.2.1 (blk bx tx cx) (by simp)).2 bx rfl
  have hbxw : bx < w.heap.size := hwX.lt (c := blk bx tx cx) (by simp) rfl
  have hpX := List.pairwise_append.1 hwX.2.2
  have hpXF := List.pairwise_append.1 hpX.2.1
  have hbxL : ∀ c ∈ Lm, ¬ c.foot bx := fun c hc h => hpX.2.2 c hc (blk bx tx cx) (by simp) bx h rfl
  have hbxF : ∀ c ∈ F, ¬ c.foot bx := fun c hc h => hpXF.2.2 c hc (blk bx tx cx) (by simp) bx h rfl
  refine wpIn_rangeFunc ?_
  intro fn hfn
  obtain ⟨rc, hrc⟩ : ∃ rc : LoopState → Option Code → Loop, rc = fun st pe => { state := st, pending := pe, fn, tmps := l.toArray, params := ps.toArray, assign, body, defers := w.heap.size } := ⟨_, rfl⟩
  obtain ⟨W1, hW1⟩ : ∃ W1, (w.alloc (.deferred (some []))).alloc (.loop (rc .ready none)) = W1 := ⟨_, rfl⟩
  obtain ⟨rd, hrd⟩ : ∃ rd : Chunk, rd = both (obj (w.heap.size + 1) (.loop (rc .ready none))) (dfr w.heap.size) := ⟨_, rfl⟩
  have hst1' : St w0 ((Lm ++ F) ++ [rd]) W1 := by
    have hb1 : Below w.heap.size w W1 := by
      rw [← hW1]; exact ((Below.refl _ w).alloc (Nat.le_refl _) _).alloc (by simp) _
    refine st_snoc (st_below hw hb1) ?_ (fun k hk => ?_) (fun c hc k hk hk' => ?_)
    · subst hrd
      refine ⟨?_, ?_⟩
      · show W1.heap[w.heap.size + 1]? = _
        rw [← hW1]; have := World.alloc_heap_new (w.alloc (.deferred (some []))) (.loop (rc .ready none)); rwa [World.size_alloc] at this
      · show W1.heap[w.heap.size]? = _
        rw [← hW1]; exact (Below.heap_alloc _ _ _ (by simp)).trans (World.alloc_heap_new w _)
    · subst hrd
      have := hw.1.size
      rcases hk with hk | hk
      · have : k = w.heap.size + 1 := hk
        omega
      · have : k = w.heap.size := hk
        omega
    · subst hrd
      have := hw.lt hc hk
      rcases hk' with hk' | hk'
      · have : k = w.heap.size + 1 := hk'
        omega
      · have : k = w.heap.size := hk'
        omega
  have hst1 : St w0 (Lm ++ (F ++ [rd])) W1 := by rw [← List.append_assoc]; exact hst1'
  have hsub : ∀ {L' : List Chunk} {x : Chunk} {W : World}, St w0 (L' ++ (F ++ [x])) W → St w0 (L' ++ [x]) W := fun h => h.sub (List.Sublist.append (List.Sublist.refl _) (List.sublist_append_right _ _))
  have hfree : ∀ {L' : List Chunk} {W : World}, St w0 (L' ++ (F ++ [rd])) W → Free w0 F (foots (L' ++ [rd])) W := fun {L'} {W} h => by
    have hp := List.pairwise_append.1 h.2.2
    have hpF := List.pairwise_append.1 hp.2.1
    refine ⟨h.sub ((List.sublist_append_left F [rd]).trans (List.sublist_append_right _ _)), fun c hc i hi => ?_, fun i hi => ?_⟩
    · rintro ⟨d, hd, hdi⟩
      rcases List.mem_append.1 hd with hd | hd
      · exact hp.2.2 d hd c (by simp [hc]) i hdi hi
      · exact hpF.2.2 c hc d hd i hi hdi
    · rintro ⟨d, hd, hdi⟩
      have := ((hsub h).2.1 d hd).2 i hdi
      omega
  have hb1 : Below w.heap.size w W1 := by
    rw [← hW1]; exact ((Below.refl _ w).alloc (Nat.le_refl _) _).alloc (by simp) _
  have hsz1 : W1.heap.size = w.heap.size + 2 := by rw [← hW1]; simp
  have hbx1 : bx < W1.heap.size := Nat.lt_of_lt_of_le hbxw hb1.size
  have hbxf : ¬ foots (Lm ++ [rd]) bx := by
    rintro ⟨d, hd, hdi⟩
    rcases List.mem_append.1 hd with hd | hd
    · exact hbxL d hd hdi
    · simp at hd; subst hd; subst hrd
      rcases hdi with hdi | hdi
      · have : bx = w.heap.size + 1 := hdi
        omega
      · have : bx = w.heap.size := hdi
        omega
  have hfreeX : Free w0 F (orb (foots (Lm ++ [rd])) bx) W1 := by
    refine ⟨(hfree hst1).1, fun c hc i hi h => ?_, fun i hi h => ?_⟩
    · rcases h with h | h
      · exact (hfree hst1).2.1 c hc i hi h
      · exact hbxF c hc (h ▸ hi)
    · rcases h with h | h
      · exact (hfree hst1).2.2 i hi h
      · omega
  have hFW : ∀ c ∈ F, ∀ i, c.foot i → i < W1.heap.size := fun c hc i hi => hst1.lt (c := c) (by simp [hc]) hi
  refine ⟨w.heap.size + 1, [mark w.heap.size], W1, { target := .fn (.func gf) cap.toArray, args := first.toArray ++ #[Value.func (.yield (w.heap.size + 1)) #[] #[]] }, W1, gf,
    (first ++ [Value.func (.yield (w.heap.size + 1)) #[] #[]] ++ cap).toArray, W1, ?_, ?_, fun _ _ => trivial, ?_, fun h => (by cases h), ?_⟩
  · rw [← hW1, hrc]; exact run_enterLoop_outer _ _ _ _ _
  · have he : (frd D l).eval g = .func (.func gf) first.toArray cap.toArray := by rw [frd_eval]; exact hg
    simp only [resolve, he]
    simp [go_sem]
  · simp [invoke, go_sem, run_call hcal]
  · refine calls_fen ((hit (w.heap.size + 1) W1.heap.size
      (fun k f W => ∃ L', JL k L' ∧ St w0 (L' ++ (F ++ [rd])) W ∧ f = foots (L' ++ [rd]) ∧ ¬ f bx ∧ bx < W.heap.size)
      (fun k f W => ∃ c L', JX c L' ∧ St w0 (L' ++ (F ++ [both (obj (w.heap.size + 1) (.loop (rc .done (some c)))) (dfr w.heap.size)])) W ∧ f = foots (L' ++ [rd]) ∧ ¬ f bx ∧ bx < W.heap.size)
      (foots (Lm ++ [rd])) W1 (Nat.le_refl _) hbx1 ?_ ?_ ?_ ?_ ?_ hbxf ?_ ⟨Lm, h0, hst1, rfl, hbxf, hbx1⟩ (hpre _ _ hfreeX ((hwX.keep (hb1.mono hw.1.size) (fun c hc k hk => hb1.block k (hwX.lt hc hk))).2.1 (blk bx tx cx) (by simp)).1)).mono ?_)
    · rintro k f W W' ⟨L', h1, h2, rfl, hn, hlt⟩ hb hs
      refine ⟨L', h1, h2.keep (hb.below hst1.1.size hbx0) (fun c hc i hi => ?_), rfl, hn, Nat.lt_of_lt_of_le hlt hb.size⟩
      rcases List.mem_append.1 hc with hc | hc
      · exact hs i ⟨c, by simp [hc], hi⟩
      rcases List.mem_append.1 hc with hc | hc
      · exact hb.block i (hFW c hc i hi) (fun e => hbxF c hc (e ▸ hi))
      · exact hs i ⟨c, by simp [List.mem_singleton.1 hc], hi⟩
    · rintro k f W W' ⟨c0, L', h1, h2, rfl, hn, hlt⟩ hb hs
      refine ⟨c0, L', h1, h2.keep (hb.below hst1.1.size hbx0) (fun c hc i hi => ?_), rfl, hn, Nat.lt_of_lt_of_le hlt hb.size⟩
      rcases List.mem_append.1 hc with hc | hc
      · exact hs i ⟨c, by simp [hc], hi⟩
      rcases List.mem_append.1 hc with hc | hc
      · exact hb.block i (hFW c hc i hi) (fun e => hbxF c hc (e ▸ hi))
      · refine hs i ⟨rd, by simp, ?_⟩
        have := List.mem_singleton.1 hc
        subst this; subst hrd; exact hi
    · rintro k f W ⟨L', h1, h2, rfl, hn, hlt⟩
      have h3 := h2.lt (c := rd) (k := w.heap.size + 1) (by simp) (by subst hrd; exact .inl rfl)
      rw [hsz1]; omega
    · rintro k f W ⟨c0, L', h1, h2, rfl, hn, hlt⟩
      have h3 := h2.lt (c := both (obj (w.heap.size + 1) (.loop (rc .done (some c0)))) (dfr w.heap.size)) (k := w.heap.size + 1) (by simp) (.inl rfl)
      rw [hsz1]; omega
    · rintro i ⟨c, hc, hi⟩
      exact (hsub hst1).lt hc hi
    · -- one round
      rintro k x f W hx ⟨L', hJ, hstF, rfl, hbn, hblt⟩
      have hst := hsub hstF
      have hl : W.heap[w.heap.size + 1]? = some (.loop (rc .ready none)) := by
        have := (st_front hst).2.1
        subst hrd; exact this.1
      have hy := run_yield (P := P) (args := (enc x).toArray) hl (by rw [hrc]; simp [hps])
      have hy' : (Instr.yield (w.heap.size + 1) (enc x).toArray).run P W = .ok (.round (w.heap.size + 1) fn (setP l ps (enc x)).toArray assign body) W := by
        rw [hy, hrc]
        congr 2
        exact setP_arr l ps (enc x)
      refine ⟨fn, _, assign, body, hy', roundIn_of_wpIn trivial ?_⟩
      obtain ⟨ot, hot⟩ : ∃ ot : Chunk, ot = oth w0.heap.size (L' ++ [rd]) W := ⟨_, rfl⟩
      have hf := st_front hst
      have hE1 : St w0 (L' ++ [both rd ot]) W := by subst hot; exact fix_in hstF
      refine wide_seq (r := some (w.heap.size + 1)) (round k x L' (w.heap.size + 1) (both rd ot) hx (fun b t cs hm => by subst hot; exact fix_ptr hstF hm) hJ W hE1) ?_
      rintro e a1 w1 hp
      cases e with
      | normal =>
        obtain ⟨l2, L2, rfl, hst2, hbody⟩ := hp
        have hf2 := st_front hst2
        have hl2 : w1.heap[w.heap.size + 1]? = some (.loop (rc .ready none)) := by
          have h1 := hf2.2.1.1
          subst hrd; exact h1.1
        have hd2 : w1.heap[w.heap.size]? = some (.deferred (some [])) := by
          have h1 := hf2.2.1.1
          subst hrd; exact h1.2
        refine ⟨_, run_beginRound hl2 (by rw [hrc]), ?_⟩
        obtain ⟨rb, hrb⟩ : ∃ rb : Chunk, rb = both (obj (w.heap.size + 1) (.loop (rc .busy none))) (dfr w.heap.size) := ⟨_, rfl⟩
        have hlt : ∀ {W : World} {o : Obj}, W.heap[w.heap.size + 1]? = some o → w.heap.size + 1 < W.heap.size := fun h => lt_of_some h
        have hfoot : ∀ k, rb.foot k ↔ rd.foot k := fun k => by subst hrb; subst hrd; exact Iff.rfl
        have hrdl : rd.foot (w.heap.size + 1) := by subst hrd; exact .inl rfl
        have hrdd : rd.foot w.heap.size := by subst hrd; exact .inr rfl
        have hotn : ∀ {W' : World} {o : Obj}, ot.holds W' → ot.holds (W'.putObj (w.heap.size + 1) o) := fun h => by
          refine ot.loc _ _ h (fun k hk => World.putObj_heap_other (fun e => ?_))
          subst hot; subst e
          exact hk.2.2 ⟨rd, by simp, hrdl⟩
        have hst3 : St w0 (L2 ++ [both rb ot]) (w1.putObj (w.heap.size + 1) (.loop (rc .busy none))) := by
          refine st_put hst2 (.inl hrdl) ⟨?_, hotn hf2.2.1.2⟩ (fun k hk => ?_)
          · subst hrb
            exact ⟨World.putObj_heap_same (hlt hl2), (World.putObj_heap_other (by omega)).trans hd2⟩
          · rcases hk with hk | hk
            · exact .inl ((hfoot k).1 hk)
            · exact .inr hk
        have e0 : ({ rc .ready none with state := .busy } : Loop) = rc .busy none := by rw [hrc]
        rw [e0]
        refine wide_seq (r := some (w.heap.size + 1)) (hbody (both rb ot) (fun b t cs hm => by subst hot; exact fix_ptr hstF hm) _ hst3) ?_
        -- what a round's end owes
        have fin : ∀ (jump : Option Code) (w3 : World) (L3 : List Chunk), St w0 (L3 ++ [both rb ot]) w3 →
            (Instr.endRound (w.heap.size + 1) jump).run P w3 = .ok (.bool jump.isNone) (w3.putObj (w.heap.size + 1) (.loop (rc (if jump.isNone then .ready else .done) jump))) ∧
            St w0 (L3 ++ (F ++ [both (obj (w.heap.size + 1) (.loop (rc (if jump.isNone then .ready else .done) jump))) (dfr w.heap.size)])) (w3.putObj (w.heap.size + 1) (.loop (rc (if jump.isNone then .ready else .done) jump))) ∧
            Grew (foots (L' ++ [rd])) W (foots (L3 ++ [rd])) ∧ Kept (foots (L' ++ [rd])) W (w3.putObj (w.heap.size + 1) (.loop (rc (if jump.isNone then .ready else .done) jump))) ∧
            ∀ i, foots (L3 ++ [rd]) i → i < (w3.putObj (w.heap.size + 1) (.loop (rc (if jump.isNone then .ready else .done) jump))).heap.size := by
          intro jump w3 L3 hst4
          have hf4 := st_front hst4
          have h1 := hf4.2.1.1
          have hl4 : w3.heap[w.heap.size + 1]? = some (.loop (rc .busy none)) := by subst hrb; exact h1.1
          have hd4 : w3.heap[w.heap.size]? = some (.deferred (some [])) := by subst hrb; exact h1.2
          have hst5 : St w0 ((L3 ++ F) ++ [rb]) w3 := by
            rw [List.append_assoc]; subst hot; exact fix_expand hF hfoot hstF hst4
          have hs4 : St w0 (L3 ++ (F ++ [both (obj (w.heap.size + 1) (.loop (rc (if jump.isNone then .ready else .done) jump))) (dfr w.heap.size)])) (w3.putObj (w.heap.size + 1) (.loop (rc (if jump.isNone then .ready else .done) jump))) := by
            rw [← List.append_assoc]
            refine st_put hst5 ((hfoot _).2 hrdl) ⟨World.putObj_heap_same (hlt hl4), (World.putObj_heap_other (by omega)).trans hd4⟩ (fun k hk => (hfoot k).2 ?_)
            subst hrd; exact hk
          refine ⟨?_, hs4, ?_, ?_, ?_⟩
          · have := run_endRound (P := P) jump hl4
            rw [this, hrc]
          · rintro i ⟨c, hc, hi⟩
            by_cases hfi : foots (L' ++ [rd]) i
            · exact .inl hfi
            · refine .inr (Nat.le_of_not_lt fun hlt' => ?_)
              rcases List.mem_append.1 hc with hc | hc
              · refine hf4.2.2.2 c hc i hi (.inr ?_)
                subst hot
                exact ⟨(hst4.2.1 c (by simp [hc])).2 i hi, hlt', hfi⟩
              · simp at hc; subst hc; exact hfi ⟨c, by simp, hi⟩
          · intro i hi hni
            have hne : i ≠ w.heap.size + 1 := fun e => hni ⟨rd, by simp, by subst e; exact hrdl⟩
            rw [World.putObj_heap_other (by omega)]
            rcases Nat.lt_or_ge i w0.heap.size with h2 | h2
            · rw [hst4.1.block i h2, hst.1.block i h2]
            · have h3 := hf4.2.1.2
              subst hot
              exact h3 i h2 hi hni
          · rintro i ⟨c, hc, hi⟩
            have hs4' := hsub hs4
            rcases List.mem_append.1 hc with hc | hc
            · exact hs4'.lt (c := c) (by simp [hc]) hi
            · simp at hc
              refine hs4'.lt (c := both (obj (w.heap.size + 1) (.loop (rc (if jump.isNone then .ready else .done) jump))) (dfr w.heap.size)) (by simp) ?_
              subst hc; subst hrd; exact hi
        rintro e a3 w3 hq
        cases e with
        | normal =>
          obtain ⟨L3, hJ3, hst4⟩ := hq
          obtain ⟨hr, hs, hgr, hk, hlt3⟩ := fin none w3 L3 hst4
          exact ⟨_, _, hr, _, hgr, hk, hlt3, .inl ⟨rfl, L3, hJ3, by subst hrd; exact hs, rfl, fun h => (hgr _ h).elim hbn (fun h => by omega), lt_of_same hblt (hk bx hblt hbn)⟩⟩
        | ret =>
          obtain ⟨L3, hJ3, hst4⟩ := hq
          obtain ⟨hr, hs, hgr, hk, hlt3⟩ := fin (some .ret) w3 L3 hst4
          exact ⟨_, _, hr, _, hgr, hk, hlt3, .inr ⟨rfl, _, L3, hJ3, hs, rfl, fun h => (hgr _ h).elim hbn (fun h => by omega), lt_of_same hblt (hk bx hblt hbn)⟩⟩
        | exit id =>
          obtain ⟨L3, hJ3, hst4⟩ := hq
          obtain ⟨hr, hs, hgr, hk, hlt3⟩ := fin (some (.exit id)) w3 L3 hst4
          exact ⟨_, _, hr, _, hgr, hk, hlt3, .inr ⟨rfl, _, L3, hJ3, hs, rfl, fun h => (hgr _ h).elim hbn (fun h => by omega), lt_of_same hblt (hk bx hblt hbn)⟩⟩
        | _ => exact (show False from hq).elim
      | _ => exact (show False from hp).elim
    · -- the function has returned
      rintro e w3 ⟨⟨v, rfl⟩, hh⟩
      have hdef : ({ frd D l with defers := [mark w.heap.size] ++ (frd D l).defers } : Act) = frd (mark w.heap.size :: D) l := rfl
      rw [hdef]
      rcases hh with ⟨f', L', hJ, hstF, _⟩ | ⟨k, f', _, c, L', hJ, hstF, _⟩
      · have hf := st_front (hsub hstF)
        have hl3 : w3.heap[w.heap.size + 1]? = some (.loop (rc .ready none)) := by
          have h1 := hf.2.1
          subst hrd; exact h1.1
        have hd3 : w3.heap[w.heap.size]? = some (.deferred (some [])) := by
          have h1 := hf.2.1
          subst hrd; exact h1.2
        have hend := run_endLoop (P := P) hl3 (by rw [hrc]; simp)
        refine ⟨_, _, hend, ?_⟩
        have e1 : (rc .ready none).pending = none := by rw [hrc]
        rw [e1]
        refine done _ L' hJ _ ?_
        rw [← List.append_assoc] at hstF ⊢
        exact st_put hstF (by subst hrd; exact .inl rfl) ((World.putObj_heap_other (by omega)).trans hd3) (fun k hk => by subst hrd; exact .inr hk)
      · have hf := st_front (hsub hstF)
        have hl3 : w3.heap[w.heap.size + 1]? = some (.loop (rc .done (some c))) := hf.2.1.1
        have hd3 : w3.heap[w.heap.size]? = some (.deferred (some [])) := hf.2.1.2
        have hend := run_endLoop (P := P) hl3 (by rw [hrc]; simp)
        refine ⟨_, _, hend, ?_⟩
        have e1 : (rc .done (some c)).pending = some c := by rw [hrc]
        rw [e1]
        refine stop _ c L' hJ _ ?_
        rw [← List.append_assoc] at hstF ⊢
        exact st_put hstF (.inl rfl) ((World.putObj_heap_other (by omega)).trans hd3) (fun k hk => .inr hk)
theorem yield_steps {α : Type} {P : Program} {lr : Nat} {enc : α → List Value} {XS : List α} {J Jx : Nat → (Nat → Prop) → World → Prop} (hR : RoundOK2 P lr enc XS J Jx) {k : Nat} {x : α} {f : Nat → Prop} {w : World} (hx : XS[k]? = some x) (hJ : J k f w) :
    YieldAt (fen none) 0 P lr (enc x).toArray w (fun e w' => ∃ b, e = .returned (.bool b) ∧ Step2 XS J Jx k f w b w') := by
  obtain ⟨fn, tmps, assign, body, h1, h2⟩ := hR k x f w hx hJ
  refine ⟨fn, tmps, assign, body, h1, h2.mono ?_⟩
  rintro e w' ⟨f', hg, hk, hl, h⟩
  rcases h with ⟨he, h⟩ | ⟨he, h⟩
  · exact ⟨true, he, .inl ⟨rfl, f', h, Keep.of hg hk, hg, hl⟩⟩
  · exact ⟨false, he, .inr ⟨rfl, k + 1, f', (List.getElem?_eq_some_iff.1 hx).1, h, Keep.of hg hk, hg, hl⟩⟩
def RoundEndN (Inv : Nat → List Value → World → Prop) (m : Nat) (wi wr : List Nat) (l : List Value) : Act → World → Prop :=
  fun a w' => ∃ m' vi' vr', a = frd [] (setF vr' (setM l wi vi') wr) ∧ Inv m' vi' w' ∧ m' < m
theorem loopN {P : Program} {w0 : World} {L : List Chunk} {Q : Exit → Act → World → Prop} {l : List Value} {x : Code} {n : Nat} (wi wr : List Nat) (Inv : Nat → List Value → World → Prop) (n0 : Nat) (h0 : ∀ w, St w0 L w → Inv n0 (wi.map (nth l)) w)
    (round : ∀ m vi vr W, Inv m vi W → Hold W [] (x.wpIn (fen none) n P (Exit.then (RoundEndN Inv m wi wr l) Q) (frd [] (setF vr (setM l wi vi) wr)))) :
    Hold w0 L ((Code.loop x).wpIn (fen none) n P Q (frd [] l)) := by
  intro w hw
  refine wpIn_loop_ghost (fun n a w => ∃ vi vr, a = frd [] (setF vr (setM l wi vi) wr) ∧ Inv n vi w) _ ⟨_, nth l, by rw [setM_self, setF_self], h0 w hw⟩ ?_
  rintro n a w ⟨vi, vr, rfl, hJ⟩
  refine wpIn_mono (round n vi vr w hJ w (St.start w)) (fun e a' w' hq => ?_)
  cases e with
  | normal =>
    obtain ⟨m', vi', vr', rfl, hJ', hlt⟩ := hq
    exact ⟨_, hlt, vi', vr', rfl, hJ'⟩
  | _ => exact hq
section
variable {r : Option Nat} {n : Nat} {P : Program} {w0 : World} {L : List Chunk} {D : List Deferred} {ops : Array Oper} {Q : Exit → Act → World → Prop} {rest : List Oper} {l : List Value} {o : Oper} {v : Value} {id : Nat}
theorem lseq_yield2 {d : Option Tmp} {ty : TypeId} {ps : String} {af : Array Edge} {g : Option (Nat × Bool)} {x : Operand} {ys : List Operand} {lr : Nat} {us : List Value} {ts : Array TypeId} {post : World → Bool → World → Prop} (hx : ev l x = .func (.yield lr) #[] #[]) (hy : ys.map (ev l) = us)
    (hg : wantL ops.toList l g = true) (hc : ∀ w, St w0 L w → YieldAt (fen none) 0 P lr us.toArray w (fun e w' => ∃ b, e = .returned (.bool b) ∧ post w b w'))
    (k : ∀ w, St w0 L w → ∀ b w', post w b w' → Hold w' [] (wpListIn (fen r) n P ops Q rest (frd D (setd l d (.bool b))))) : Hold w0 L (wpListIn (fen r) n P ops Q (⟨d, .call { callee := .value x, args := ys.toArray, argTypes := ts }, ty, ps, af, g⟩ :: rest) (frd D l)) := by
  intro w hw
  unfold wpListIn
  have hyl : Region.wanted ⟨d, .call { callee := .value x, args := ys.toArray, argTypes := ts }, ty, ps, af, g⟩ (yielded ops (frd D l).tmps) = wantL ops.toList l g := wanted_eq ops l _
  rw [if_pos (by rw [hyl]; exact hg)]
  refine ⟨fun _ _ => trivial, ?_⟩
  have hs : (⟨d, .call { callee := .value x, args := ys.toArray, argTypes := ts }, ty, ps, af, g⟩ : Oper).semAt (fen r).round (frd D l).eval = execOp (ev l) ⟨d, .call { callee := .value x, args := ys.toArray, argTypes := ts }, ty, ps, af, g⟩ := by
    rw [frd_eval]
    cases r with
    | none => rfl
    | some l' => exact Oper.semAt_some l' (ev l) _ (fun c hc => by cases hc)
  obtain ⟨fn, tmps, assign, body, hrun, hround⟩ := hc w hw
  rw [hs]
  have hexec : (execOp (ev l) ⟨d, .call { callee := .value x, args := ys.toArray, argTypes := ts }, ty, ps, af, g⟩).run P w = .ok (.round lr fn tmps assign body) w := by
    have e2 : ys.toArray.map (ev l) = us.toArray := by rw [← hy]; simp
    simp only [execOp, resolve, hx, e2, Deferred.ofValue, Sem.run_bind, Sem.run_pure, Result.andThen_ok, invoke]
    simp [hrun]
  rw [hexec]
  refine ⟨fun h => (by cases h), (round_fen hround).mono ?_⟩
  rintro e w' ⟨b, rfl, h⟩
  show wpListIn (fen r) n P ops Q rest ((frd D l).put d (.bool b)) w'
  rw [frd_put]
  exact k w hw b w' h w' (St.start w')
end
section
variable {P : Program} {w0 : World} {L : List Chunk} {ops : Array Oper} {Q : Exit → Act → World → Prop} {rest : List Oper} {l : List Value} {d : Option Tmp} {ty : TypeId} {ps : String} {af : Array Edge} {g : Option (Nat × Bool)}
end
end Go.R

namespace Go.K
open Go.RowKit
def mk1 (P : Program) (t : TypeId) : Option (TypeId × Nat × Value) :=
  match P.underlying t with
  | some (.slice e) => match P.info? e with
    | some i => match i.zero with
      | some z => if z.cells.size = 1 ∧ i.size = 1 then some (e, i.bytes, z.cells[0]!) else none
      | none => none
    | none => none
  | _ => none
theorem mk1_spec {P : Program} {t e b : Nat} {u : Value} (h : mk1 P t = some (e, b, u)) : ∃ i z, P.underlying t = some (.slice e) ∧ P.info? e = some i ∧ i.zero = some z ∧ i.size = 1 ∧ i.bytes = b ∧ z.cells = #[u] := by
  unfold mk1 at h
  split at h
  · rename_i e' hs
    split at h
    · rename_i i hi
      split at h
      · rename_i z hz
        split at h
        · rename_i hc
          simp only [Option.some.injEq, Prod.mk.injEq] at h
          obtain ⟨rfl, rfl, rfl⟩ := h
          refine ⟨i, z, hs, hi, hz, hc.2, rfl, ?_⟩
          apply Array.ext
          · simp [hc.1]
          · intro j h1 h2
            have : j = 0 := by simp at h2; omega
            subst this
            simp [hc.1]
        · cases h
      · cases h
    · cases h
  · cases h
theorem made1 (u : Value) (n : Nat) : madeCells #[u] n = (List.replicate n u).toArray := by
  apply Array.ext
  · simp [madeCells]
  · intro j h1 h2
    simp [madeCells, Nat.mod_one]
section
variable {P : Program} {w0 : World} {L L' : List Chunk} {l : List Value} {d : Option Tmp} {ty : TypeId} {ps : String} {af : Array Edge} {g : Option (Nat × Bool)}
theorem mkSlice {t e bytes n : Nat} {u : Value} {x y : Operand} (h : mk1 P t = some (e, bytes, u)) (hx : ev l x = .int .i64 (n : Int)) (hy : ev l y = .int .i64 (n : Int)) (hb : bytes * n ≤ 281474976710656) (hn : n ≤ 281474976710656) :
    Loud P w0 L ⟨d, .makeSlice t x y, ty, ps, af, g⟩ l (fun _ : Nat => True) (fun b => .slice (some ⟨b, 0, none⟩) n n) (fun b => [blk b e (List.replicate n u)]) := fun F w _ hw => by
  obtain ⟨i, z, hs, hi, hz, h1, h2, h3⟩ := mk1_spec h
  refine OpT.of_run (w' := w.alloc (.cells (List.replicate n u).toArray e)) ?_ ⟨w.heap.size, trivial, rfl, hw.new e (List.replicate n u)⟩
  have hb' : (i.bytes : Int) * (n : Int) ≤ 281474976710656 := by
    rw [h2]
    have : ((bytes * n : Nat) : Int) ≤ 281474976710656 := by omega
    rwa [Int.natCast_mul] at this
  have hr := run_make (P := P) w t e i z hs hi hz .i64 .i64 n n (by omega) (Int.le_refl _) hb' (by omega)
  rw [h3, h1, Int.toNat_natCast, Nat.mul_one, made1] at hr
  simp only [execOp, hx, hy, Sem.run_bind, hr, Sem.run_pure, Result.andThen_ok]
theorem rep_int {n : Nat} {z : Int} : List.replicate n (Value.int .i64 z) = (List.replicate n z).flatMap eI := by
  induction n with
  | zero => rfl
  | succ n ih => rw [List.replicate_succ, List.replicate_succ, List.flatMap_cons, ih]; rfl
theorem row_shrink {A : Option Addr} {n m c e size : Nat} {xs : List Value} {G : World → Prop} (hr : Rep (row (.slice A n c) e size n xs) (row (.slice A m c) e size m (xs.take (m * size))) L L') (hm : m ≤ n) (k : Hold w0 L' G) : Hold w0 L G := fun w hw => by
  have ho : w.ownsRow 0 e size (.slice A n c) n xs := (hw.2.1 _ hr.mem).1
  refine k w (hw.upd (row := none) hr ⟨rfl, rfl, rfl, Nat.le_refl _, fun _ _ _ => rfl⟩ (fun _ h => by cases h) ?_ (fun q hq => .inl ?_))
  · obtain ⟨hl, hd⟩ := ho
    have hml : m * size ≤ n * size := Nat.mul_le_mul_right _ hm
    refine ⟨by rw [List.length_take]; omega, ?_⟩
    rcases hd with ⟨hv, h0⟩ | ⟨gg, cap, cur, hv, hb, hh, h2, h3, h4, h5⟩
    · injection hv with e1 _ e3
      subst e1; subst e3
      exact .inl ⟨by rw [show m = 0 by omega], by omega⟩
    · injection hv with e1 _ e3
      subst e1; subst e3
      refine .inr ⟨gg, c, cur, rfl, hb, hh, by omega, h3, h4, ?_⟩
      rw [← h5, List.take_take, Nat.min_eq_left hml]
  · cases A with
    | none => simp [row, Value.ownBlock] at hq
    | some a => exact hq
end
end Go.K
end
section
set_option linter.unusedSimpArgs false
set_option linter.unusedVariables false
namespace Go.K
open Go.RowKit
section
variable {P : Program} {w0 : World} {L L' : List Chunk} {l : List Value} {d : Option Tmp} {ty : TypeId} {ps : String} {af : Array Edge} {g : Option (Nat × Bool)}
def RetU {ρ : Type} (ok : ρ → Prop) (val : ρ → Value) (w0 : World) (L' : ρ → List Chunk) : Ending → World → Prop :=
  fun e w' => ∃ r, ok r ∧ e = .returned (val r) ∧ St w0 (L' r) w'
theorem enterU {P : Program} {f : FuncId} {fn : Func} {c : Code} {args : List Value} {n : Nat} {w0 w : World} {L : List Chunk} {R : Ending → World → Prop} (hf : P.funcs[f]? = some fn) (hb : fn.body = some c) (hn : fn.ntmps - args.length = n) (hw : St w0 L w)
    (k : Hold w0 L (c.wp P (bodyPost P fn R) (fr (args ++ List.replicate n undef)))) : Calls P f args.toArray w R := by
  refine calls_of_wp hf hb ?_
  have h1 := k w hw
  subst hn
  have e : args.toArray ++ Array.replicate (fn.ntmps - args.toArray.size) undef = (args ++ List.replicate (fn.ntmps - args.length) undef).toArray := by
    apply Array.toList_inj.1; simp
  rw [e]
  exact h1
theorem retsU {ρ : Type} {ok : ρ → Prop} {val : ρ → Value} {D : ρ → List Chunk} {v : Value} (r : ρ) (hok : ok r) (hv : v = val r) (hD : List.Sublist (D r) L) : Hold w0 L (RetU ok val w0 D (.returned v)) :=
  fun _ hw => ⟨r, hok, by rw [hv], hw.sub hD⟩
theorem callU {ρ : Type} {ok : ρ → Prop} {val : ρ → Value} {D : ρ → List Chunk} {x : Operand} {args : List Operand} {f : FuncId} {first cap : List Value} {ts : Array TypeId} (hx : ev l x = .func (.func f) first.toArray cap.toArray) (hf : callable P f = true)
    (hc : ∀ w, St w0 L w → Calls P f (first ++ args.map (ev l) ++ cap).toArray w (RetU ok val w0 D)) :
    Upd P w0 L ⟨d, .call { callee := .value x, args := args.toArray, argTypes := ts }, ty, ps, af, g⟩ l ok val D := fun w hw => by
  refine OpT.of_enter (w' := w) (f := f) (args := (first ++ args.map (ev l) ++ cap).toArray) ?_ ((hc w hw).mono ?_)
  · have e : first.toArray ++ args.toArray.map (ev l) ++ cap.toArray = (first ++ args.map (ev l) ++ cap).toArray := by
      apply Array.toList_inj.1; simp
    simp only [execOp, resolve, hx, Deferred.ofValue, Sem.run_bind, Sem.run_pure, Result.andThen_ok, invoke, e, run_call hf]
  · rintro e w' ⟨r, hr, rfl, hb⟩
    exact ⟨_, rfl, r, hr, rfl, hb⟩
variable {t kt b : Nat} {kvs : List (Value × Int)} {key : Value} {bo : Option (Nat × Nat)}
end
end Go.K
end
section
set_option linter.unusedSimpArgs false
set_option linter.unusedVariables false
namespace Go.Proofs.Ytfbglomliankmaa.Cv
open Go
structure CvT where
  bd : Int
  lo : Int
  hi : Int
instance : Inhabited CvT := ⟨⟨0, 0, 0⟩⟩
def eC (p : CvT) : List Value := [.int .i64 p.bd, .int .i64 p.lo, .int .i64 p.hi]
def outB (lo hi : Int) (xs : List Int) : Bool := xs.any fun n => decide (n < lo) || decide (n > hi)
def pE (p : CvT) : Int := if ¬ ((0 ≤ p.bd ∧ p.bd ≤ 9000) ∧ (0 ≤ p.lo ∧ p.lo ≤ 9000) ∧ (0 ≤ p.hi ∧ p.hi ≤ 9000)) then 7 else if ¬ (p.lo ≤ p.hi ∧ p.hi ≤ p.lo + 30) then 2 else 0
def chk (st : Int) (ps : List CvT) : Int × Int × Int :=
  if ¬ (0 ≤ st ∧ st ≤ 200) then (1, 0, 7) else if ¬ (1 ≤ ps.length ∧ ps.length ≤ 10) then (1, 0, 3) else if (K.fst pE ps).2 ≠ 0 then (2, K.fst pE ps) else (0, 0, 0)
structure Good (st : Int) (ps : List CvT) : Prop where
  s : 0 ≤ st ∧ st ≤ 200
  n : 1 ≤ ps.length ∧ ps.length ≤ 10
  p : ∀ i, i < ps.length → ((0 ≤ (ps.getD i default).bd ∧ (ps.getD i default).bd ≤ 9000) ∧ (0 ≤ (ps.getD i default).lo ∧ (ps.getD i default).lo ≤ 9000) ∧ (0 ≤ (ps.getD i default).hi ∧ (ps.getD i default).hi ≤ 9000)) ∧ ((ps.getD i default).lo ≤ (ps.getD i default).hi ∧ (ps.getD i default).hi ≤ (ps.getD i default).lo + 30)
section
variable {st : Int} {ps : List CvT} {s : List Int}
theorem pE_0 {p : CvT} : pE p = 0 ↔ ((0 ≤ p.bd ∧ p.bd ≤ 9000) ∧ (0 ≤ p.lo ∧ p.lo ≤ 9000) ∧ (0 ≤ p.hi ∧ p.hi ≤ 9000)) ∧ (p.lo ≤ p.hi ∧ p.hi ≤ p.lo + 30) := by
  unfold pE
  split
  · rename_i h; constructor
    · intro h; omega
    · intro h2; exact absurd h2.1 h
  · rename_i h
    split
    · rename_i h2; constructor
      · intro h; omega
      · intro h3; exact absurd h3.2 h2
    · rename_i h2
      exact ⟨fun _ => ⟨Decidable.not_not.1 h, Decidable.not_not.1 h2⟩, fun _ => rfl⟩
theorem fst_z {E : Type} [Inhabited E] {q : E → Int} {xs : List E} : (K.fst q xs).2 = 0 ↔ ∀ j, j < xs.length → q (xs.getD j default) = 0 := by
  constructor
  · intro h j
    induction j using Nat.strongRecOn with
    | ind j ih =>
      intro hj
      rcases Classical.em (q (xs.getD j default) = 0) with h0 | h0
      · exact h0
      · rw [K.fst_found hj (fun i hi => ih i hi (by omega)) h0] at h
        exact h
  · intro h
    rw [K.fst_none h]
theorem chk_1 (h : ¬ (0 ≤ st ∧ st ≤ 200)) : chk st ps = (1, 0, 7) := by unfold chk; rw [if_pos h]
theorem chk_2 (h1 : 0 ≤ st ∧ st ≤ 200) (h : ¬ (1 ≤ ps.length ∧ ps.length ≤ 10)) : chk st ps = (1, 0, 3) := by unfold chk; rw [if_neg (by omega), if_pos h]
theorem chk_3 (h1 : 0 ≤ st ∧ st ≤ 200) (h2 : 1 ≤ ps.length ∧ ps.length ≤ 10) {k : Nat} (hk : k < ps.length) (h0 : ∀ j, j < k → pE (ps.getD j default) = 0) (h : pE (ps.getD k default) ≠ 0) : chk st ps = (2, (k : Int), pE (ps.getD k default)) := by
  unfold chk; rw [if_neg (by omega), if_neg (by omega), K.fst_found hk h0 h, if_pos h]
theorem chk_0 (h1 : 0 ≤ st ∧ st ≤ 200) (h2 : 1 ≤ ps.length ∧ ps.length ≤ 10) (h0 : ∀ j, j < ps.length → pE (ps.getD j default) = 0) : chk st ps = (0, 0, 0) := by
  unfold chk; rw [if_neg (by omega), if_neg (by omega), K.fst_none h0]; rfl
theorem chk_good (h : (chk st ps).2.2 = 0) : Good st ps := by
  unfold chk at h
  split at h
  · simp at h
  · rename_i h1
    split at h
    · simp at h
    · rename_i h2
      split at h
      · rename_i h3; exact absurd h h3
      · rename_i h3
        exact ⟨Decidable.not_not.1 h1, Decidable.not_not.1 h2, fun i hi => pE_0.1 (fst_z.1 (Decidable.not_not.1 h3) i hi)⟩
theorem Good.chk (g : Good st ps) : chk st ps = (0, 0, 0) := chk_0 g.s g.n fun j hj => pE_0.2 (g.p j hj)
def wrg (st : Int) (ps : List CvT) (s : List Int) (i : Nat) : Int :=
  if s.getD i default < (ps.getD i default).lo then 1 else if s.getD i default > (ps.getD i default).hi then 2
  else if 0 < i ∧ (s.getD i default - s.getD (i - 1) default > st ∨ s.getD (i - 1) default - s.getD i default > st) then 3 else 0
def fwy (st : Int) (ps : List CvT) (s : List Int) : Int × Int := K.fst (wrg st ps s) (List.range s.length)
theorem rng_at {n k : Nat} (h : k < n) : (List.range n).getD k default = k := by
  rw [List.getD_eq_getElem?_getD, List.getElem?_range h]; rfl
theorem fwy_found {k : Nat} (hk : k < s.length) (h0 : ∀ j, j < k → wrg st ps s j = 0) (h : wrg st ps s k ≠ 0) : fwy st ps s = ((k : Int), wrg st ps s k) := by
  unfold fwy
  rw [K.fst_found (by rw [List.length_range]; exact hk) (fun j hj => by rw [rng_at (by omega)]; exact h0 j hj) (by rw [rng_at hk]; exact h), rng_at hk]
theorem fwy_none (h0 : ∀ j, j < s.length → wrg st ps s j = 0) : fwy st ps s = (0, 0) := by
  unfold fwy
  exact K.fst_none fun j hj => by rw [List.length_range] at hj; rw [rng_at hj]; exact h0 j hj
structure Surf (st : Int) (ps : List CvT) (s : List Int) : Prop where
  l : s.length = ps.length
  b : ∀ i, i < ps.length → (ps.getD i default).lo ≤ s.getD i default ∧ s.getD i default ≤ (ps.getD i default).hi
  d : ∀ i, i + 1 < ps.length → s.getD (i + 1) default - s.getD i default ≤ st ∧ s.getD i default - s.getD (i + 1) default ≤ st
theorem wrg_0 (hs : Surf st ps s) {i : Nat} (hi : i < ps.length) : wrg st ps s i = 0 := by
  have h1 := hs.b i hi
  unfold wrg
  rw [if_neg (by omega), if_neg (by omega), if_neg]
  rintro ⟨h0, h2⟩
  obtain ⟨j, rfl⟩ := Nat.exists_eq_succ_of_ne_zero (show i ≠ 0 by omega)
  have h3 := hs.d j hi
  rw [show j.succ - 1 = j by omega] at h2
  rw [show j.succ = j + 1 from rfl] at h2
  omega
theorem surf_why (hs : Surf st ps s) : fwy st ps s = (0, 0) := fwy_none fun j hj => wrg_0 hs (by rw [← hs.l]; exact hj)
theorem surf_of (hl : s.length = ps.length) (h : (fwy st ps s).2 = 0) : Surf st ps s := by
  have h0 : ∀ j, j < s.length → wrg st ps s j = 0 := fun j hj => by
    have := fst_z.1 h j (by rw [List.length_range]; exact hj)
    rwa [rng_at hj] at this
  refine ⟨hl, fun i hi => ?_, fun i hi => ?_⟩
  · have := h0 i (by omega)
    unfold wrg at this
    split at this
    · simp at this
    · split at this
      · simp at this
      · omega
  · have := h0 (i + 1) (by omega)
    unfold wrg at this
    split at this
    · simp at this
    · split at this
      · simp at this
      · split at this
        · simp at this
        · rename_i h3
          rw [show i + 1 - 1 = i by omega] at h3
          omega
def srfE (st : Int) (ps : List CvT) (s : List Int) : Int := if (chk st ps).2.2 ≠ 0 then (chk st ps).2.2 else if s.length ≠ ps.length then 3 else if outB 0 9000 s = true then 7 else 0
def whyR (st : Int) (ps : List CvT) (s : List Int) : Int × Int × Int := if srfE st ps s ≠ 0 then (0, 0, srfE st ps s) else ((fwy st ps s).1, (fwy st ps s).2, 0)
theorem outB_f {lo hi : Int} {xs : List Int} (h : ∀ x ∈ xs, lo ≤ x ∧ x ≤ hi) : outB lo hi xs = false := by
  unfold outB
  rw [List.any_eq_false]
  intro x hx
  have := h x hx
  simp; omega
theorem mem_at {xs : List Int} {x : Int} (h : x ∈ xs) : ∃ j, j < xs.length ∧ xs.getD j default = x := by
  obtain ⟨j, hj, e⟩ := List.mem_iff_getElem.1 h
  exact ⟨j, hj, by rw [List.getD_eq_getElem?_getD, List.getElem?_eq_getElem hj]; exact e⟩
theorem surf_whyR (g : Good st ps) (hs : Surf st ps s) : whyR st ps s = (0, 0, 0) := by
  have he : srfE st ps s = 0 := by
    unfold srfE
    rw [g.chk, if_neg (by simp), if_neg (by rw [hs.l]; simp), outB_f, if_neg (by simp)]
    intro x hx
    obtain ⟨j, hj, rfl⟩ := mem_at hx
    rw [hs.l] at hj
    have h1 := hs.b j hj
    have h2 := g.p j hj
    omega
  unfold whyR
  rw [he, if_neg (by simp), surf_why hs]
def bst (st : Int) (l : List (Int × Int)) (i k : Nat) : List (Int × Int) := l.set k (max (l.getD k default).1 ((l.getD i default).1 - st), min (l.getD k default).2 ((l.getD i default).2 + st))
def nbs (n : Nat) : List (Nat × Nat) := (List.range (n - 1)).map (fun i => (i, i + 1)) ++ (List.range (n - 1)).map (fun i => (n - 1 - i, n - 1 - i - 1))
def bndF (st : Int) (ps : List CvT) (k : Nat) : List (Int × Int) := ((nbs ps.length).take k).foldl (fun l x => bst st l x.1 x.2) (ps.map fun p => (p.lo, p.hi))
def bnd (st : Int) (ps : List CvT) : List (Int × Int) := bndF st ps (nbs ps.length).length
def bOk (l : List (Int × Int)) : Bool := !(l.any fun x => decide (x.1 > x.2))
def bndE (st : Int) (ps : List CvT) : Int := if (chk st ps).2.2 ≠ 0 then (chk st ps).2.2 else if bOk (bnd st ps) = true then 0 else 9
def bndL (st : Int) (ps : List CvT) : List (Int × Int) := if bndE st ps = 0 then bnd st ps else []
theorem bst_len {l : List (Int × Int)} {i k : Nat} : (bst st l i k).length = l.length := by unfold bst; rw [List.length_set]
theorem bndF_succ {k : Nat} {x : Nat × Nat} (h : (nbs ps.length)[k]? = some x) : bndF st ps (k + 1) = bst st (bndF st ps k) x.1 x.2 := by
  unfold bndF
  rw [List.take_add_one, h, List.foldl_append]; rfl
theorem bndF_len : ∀ k, (bndF st ps k).length = ps.length
  | 0 => by unfold bndF; simp
  | k + 1 => by
    cases h : (nbs ps.length)[k]? with
    | none => unfold bndF; rw [List.take_add_one, h]; exact (by simpa using bndF_len k : (bndF st ps k).length = ps.length) |> fun e => by simpa [bndF] using e
    | some x => rw [bndF_succ h, bst_len]; exact bndF_len k
theorem nbs_len {n : Nat} : (nbs n).length = (n - 1) + (n - 1) := by unfold nbs; simp
theorem nbs_up {n k : Nat} (h : k < n - 1) : (nbs n)[k]? = some (k, k + 1) := by
  unfold nbs
  rw [List.getElem?_append_left (by simpa using h), List.getElem?_map, List.getElem?_range h]; rfl
theorem nbs_dn {n k : Nat} (h : k < n - 1) : (nbs n)[n - 1 + k]? = some (n - 1 - k, n - 1 - k - 1) := by
  unfold nbs
  rw [List.getElem?_append_right (by simp), List.getElem?_map]
  rw [show n - 1 + k - (List.map (fun i => (i, i + 1)) (List.range (n - 1))).length = k by simp, List.getElem?_range h]; rfl
theorem nbs_in {n k : Nat} {x : Nat × Nat} (h : (nbs n)[k]? = some x) : x.1 < n ∧ x.2 < n ∧ (x.2 = x.1 + 1 ∨ x.1 = x.2 + 1) := by
  have hk := (List.getElem?_eq_some_iff.1 h).1
  rw [nbs_len] at hk
  rcases Nat.lt_or_ge k (n - 1) with h1 | h1
  · rw [nbs_up h1] at h
    obtain rfl := Option.some.inj h
    dsimp only; omega
  · have e : n - 1 + (k - (n - 1)) = k := by omega
    have h2 := nbs_dn (n := n) (k := k - (n - 1)) (by omega)
    rw [e, h] at h2
    obtain rfl := Option.some.inj h2
    dsimp only; omega
theorem bnd_in (hs : Surf st ps s) : ∀ k, k ≤ (nbs ps.length).length → ∀ j, j < ps.length → ((bndF st ps k).getD j default).1 ≤ s.getD j default ∧ s.getD j default ≤ ((bndF st ps k).getD j default).2
  | 0, _, j, hj => by
    have := hs.b j hj
    unfold bndF
    rw [List.take_zero, List.foldl_nil, List.getD_eq_getElem?_getD, List.getElem?_map, List.getElem?_eq_getElem hj]
    rw [List.getD_eq_getElem?_getD, List.getElem?_eq_getElem hj] at this
    exact this
  | k + 1, hk, j, hj => by
    obtain ⟨x, hx⟩ : ∃ x, (nbs ps.length)[k]? = some x := ⟨_, List.getElem?_eq_getElem (by omega)⟩
    have hn := nbs_in hx
    have h1 := bnd_in hs k (by omega) j hj
    have h2 := bnd_in hs k (by omega) x.1 hn.1
    have hd : s.getD x.2 default - s.getD x.1 default ≤ st ∧ s.getD x.1 default - s.getD x.2 default ≤ st := by
      rcases hn.2.2 with e | e
      · have := hs.d x.1 (by omega); rw [e]; exact this
      · have := hs.d x.2 (by omega); rw [e]; omega
    rw [bndF_succ hx]
    unfold bst
    rw [List.getD_eq_getElem?_getD, List.getElem?_set]
    by_cases e : x.2 = j
    · subst e
      rw [if_pos rfl, if_pos (by rw [bndF_len]; exact hn.2.1)]
      show max _ _ ≤ _ ∧ _ ≤ min _ _
      omega
    · rw [if_neg e, ← List.getD_eq_getElem?_getD]
      exact h1
theorem surf_bnd (g : Good st ps) (hs : Surf st ps s) : bndE st ps = 0 ∧ bndL st ps = bnd st ps ∧ (bnd st ps).length = ps.length ∧ ∀ j, j < ps.length → ((bnd st ps).getD j default).1 ≤ s.getD j default ∧ s.getD j default ≤ ((bnd st ps).getD j default).2 := by
  have hin : ∀ j, j < ps.length → ((bnd st ps).getD j default).1 ≤ s.getD j default ∧ s.getD j default ≤ ((bnd st ps).getD j default).2 := bnd_in hs _ (Nat.le_refl _)
  have hl : (bnd st ps).length = ps.length := bndF_len _
  have ok : bOk (bnd st ps) = true := by
    unfold bOk
    rw [Bool.not_eq_true', List.any_eq_false]
    intro x hx
    obtain ⟨j, hj, e⟩ := List.mem_iff_getElem.1 hx
    have := hin j (by rw [← hl]; exact hj)
    rw [List.getD_eq_getElem?_getD, List.getElem?_eq_getElem hj] at this
    have e2 : (bnd st ps)[j] = x := e
    have this : ((bnd st ps)[j]).1 ≤ s.getD j default ∧ s.getD j default ≤ ((bnd st ps)[j]).2 := this
    rw [e2] at this
    simp; omega
  have he : bndE st ps = 0 := by unfold bndE; rw [g.chk, if_neg (by simp), if_pos ok]
  exact ⟨he, by unfold bndL; rw [if_pos he], hl, hin⟩
end
end Go.Proofs.Ytfbglomliankmaa.Cv
end
section
set_option linter.unusedSimpArgs false
set_option linter.unusedVariables false
namespace Go.Proofs.Ytfbglomliankmaa.Cv
open Go
section
variable {st : Int} {ps : List CvT} {s : List Int}
def someB (st : Int) (ps : List CvT) : Bool := bOk (bnd st ps)
def lstF (p : Int → Bool) : Nat → Int → Int → Int
  | 0, lo, _ => lo
  | f + 1, lo, hi => if lo < hi then (if p ((lo + hi) / 2) then lstF p f lo ((lo + hi) / 2) else lstF p f ((lo + hi) / 2 + 1) hi) else lo
theorem lst_end {p : Int → Bool} {f : Nat} {lo hi : Int} (h : ¬ lo < hi) : lstF p f lo hi = lo := by
  cases f with
  | zero => rfl
  | succ f => rw [lstF, if_neg h]
theorem lst_t {p : Int → Bool} {f : Nat} {lo hi : Int} (h : lo < hi) (h2 : p ((lo + hi) / 2) = true) : lstF p (f + 1) lo hi = lstF p f lo ((lo + hi) / 2) := by rw [lstF, if_pos h, if_pos h2]
theorem lst_f {p : Int → Bool} {f : Nat} {lo hi : Int} (h : lo < hi) (h2 : p ((lo + hi) / 2) = false) : lstF p (f + 1) lo hi = lstF p f ((lo + hi) / 2 + 1) hi := by rw [lstF, if_pos h, if_neg (by rw [h2]; decide)]
theorem lst_fuel {p : Int → Bool} : ∀ {f : Nat} {lo hi : Int}, hi - lo ≤ f → ∀ g, lstF p (f + g) lo hi = lstF p f lo hi
  | 0, lo, hi, h, g => by rw [lst_end (by omega), lst_end (by omega)]
  | f + 1, lo, hi, h, g => by
    by_cases hl : lo < hi
    · rw [show f + 1 + g = (f + g) + 1 by omega]
      cases h2 : p ((lo + hi) / 2) with
      | true => rw [lst_t hl h2, lst_t hl h2]; exact lst_fuel (by omega) g
      | false => rw [lst_f hl h2, lst_f hl h2]; exact lst_fuel (by omega) g
    · rw [lst_end hl, lst_end hl]
def lstG (p : Int → Bool) (lo hi : Int) : Int := lstF p (hi - lo).toNat lo hi
theorem lstG_end {p : Int → Bool} {lo hi : Int} (h : ¬ lo < hi) : lstG p lo hi = lo := lst_end h
theorem lstG_f {p : Int → Bool} {lo hi : Int} {n : Nat} (h : hi - lo ≤ n) : lstF p n lo hi = lstG p lo hi := by
  by_cases h0 : lo < hi
  · have := lst_fuel (p := p) (f := (hi - lo).toNat) (lo := lo) (hi := hi) (by omega) (n - (hi - lo).toNat)
    rw [show (hi - lo).toNat + (n - (hi - lo).toNat) = n by omega] at this
    exact this
  · rw [lst_end h0, lstG_end h0]
theorem lstG_t {p : Int → Bool} {lo hi : Int} (h : lo < hi) (h2 : p ((lo + hi) / 2) = true) : lstG p lo hi = lstG p lo ((lo + hi) / 2) := by
  obtain ⟨n, hn⟩ := Nat.exists_eq_succ_of_ne_zero (show (hi - lo).toNat ≠ 0 by omega)
  conv => lhs; unfold lstG; rw [hn]
  rw [lst_t h h2]; exact lstG_f (by omega)
theorem lstG_no {p : Int → Bool} {lo hi : Int} (h : lo < hi) (h2 : p ((lo + hi) / 2) = false) : lstG p lo hi = lstG p ((lo + hi) / 2 + 1) hi := by
  obtain ⟨n, hn⟩ := Nat.exists_eq_succ_of_ne_zero (show (hi - lo).toNat ≠ 0 by omega)
  conv => lhs; unfold lstG; rw [hn]
  rw [lst_f h h2]; exact lstG_f (by omega)
def needS (ps : List CvT) : Int := lstG (fun k => someB k ps) 0 9000
def plS (ps : List CvT) (s : List Int) : Nat → Int
  | 0 => 0
  | k + 1 => plS ps s k + max 0 (s.getD k default - (ps.getD k default).bd)
theorem plS_bd (g : Good st ps) (hs : ∀ x ∈ s, 0 ≤ x ∧ x ≤ 9000) (hl : s.length = ps.length) : ∀ k, k ≤ ps.length → 0 ≤ plS ps s k ∧ plS ps s k ≤ 9000 * k
  | 0, _ => by unfold plS; omega
  | k + 1, h => by
    have := plS_bd g hs hl k (by omega)
    have h1 := hs _ (K.gt_mem (xs := s) (k := k) (by omega))
    have h2 := g.p k (by omega)
    unfold plS; omega
def dpS (ps : List CvT) (s : List Int) (k : Nat) : List Int := (List.range (ps.length + 1)).map fun i => if i < k then max 0 ((ps.getD i default).bd - s.getD i default) else 0
def dpA (ps : List CvT) (s : List Int) (i : Nat) : Int := max 0 ((ps.getD i default).bd - s.getD i default)
def bfS (ps : List CvT) (s : List Int) : Nat → Int
  | 0 => 0
  | k + 1 => dpA ps s k
def mnS (ps : List CvT) (s : List Int) : Nat → Int
  | 0 => 0
  | k + 1 => mnS ps s k + max 0 (dpA ps s k - bfS ps s k)
theorem dpS_len {k : Nat} : (dpS ps s k).length = ps.length + 1 := by unfold dpS; simp
theorem dpS_0 : dpS ps s 0 = List.replicate (ps.length + 1) 0 := by
  unfold dpS
  refine List.ext_getElem (by simp) fun i h1 h2 => ?_
  simp
theorem dpS_set {k : Nat} (h : k < ps.length) : (dpS ps s k).set k (dpA ps s k) = dpS ps s (k + 1) := by
  unfold dpS
  refine List.ext_getElem (by simp) fun i h1 h2 => ?_
  rw [List.getElem_set]
  simp only [List.getElem_map, List.getElem_range]
  by_cases e : k = i
  · subst e; rw [if_pos rfl, if_pos (by omega)]; rfl
  · rw [if_neg e]
    by_cases e2 : i < k
    · rw [if_pos e2, if_pos (by omega)]
    · rw [if_neg e2, if_neg (by omega)]
theorem dpS_at {k : Nat} (h : k < ps.length) : (dpS ps s (k + 1)).getD k default = dpA ps s k := by
  unfold dpS
  rw [List.getD_eq_getElem?_getD, List.getElem?_map, List.getElem?_range (by omega)]
  simp [dpA]
theorem dpA_bd (g : Good st ps) (hs : ∀ x ∈ s, 0 ≤ x ∧ x ≤ 9000) (hl : s.length = ps.length) {k : Nat} (h : k < ps.length) : 0 ≤ dpA ps s k ∧ dpA ps s k ≤ 9000 := by
  have h1 := hs _ (K.gt_mem (xs := s) (k := k) (by omega))
  have h2 := g.p k h
  unfold dpA; omega
theorem bfS_bd (g : Good st ps) (hs : ∀ x ∈ s, 0 ≤ x ∧ x ≤ 9000) (hl : s.length = ps.length) : ∀ k, k ≤ ps.length → 0 ≤ bfS ps s k ∧ bfS ps s k ≤ 9000
  | 0, _ => ⟨Int.le_refl 0, by show (0 : Int) ≤ 9000; decide⟩
  | k + 1, h => dpA_bd g hs hl h
theorem mnS_bd (g : Good st ps) (hs : ∀ x ∈ s, 0 ≤ x ∧ x ≤ 9000) (hl : s.length = ps.length) : ∀ k, k ≤ ps.length → 0 ≤ mnS ps s k ∧ mnS ps s k ≤ 9000 * k
  | 0, _ => by unfold mnS; omega
  | k + 1, h => by
    have := mnS_bd g hs hl k (by omega)
    have h1 := dpA_bd g hs hl h
    have h2 := bfS_bd g hs hl k (by omega)
    unfold mnS; omega
theorem dpS_mem (g : Good st ps) (hs : ∀ x ∈ s, 0 ≤ x ∧ x ≤ 9000) (hl : s.length = ps.length) {k : Nat} : ∀ x ∈ dpS ps s k, 0 ≤ x ∧ x ≤ 9000 := fun x hx => by
  unfold dpS at hx
  obtain ⟨i, hi, rfl⟩ := List.mem_map.1 hx
  split
  · by_cases h : i < ps.length
    · exact dpA_bd g hs hl h
    · rw [List.getD_eq_getElem?_getD, List.getElem?_eq_none (by omega), List.getD_eq_getElem?_getD, List.getElem?_eq_none (by omega)]
      exact ⟨by show (0 : Int) ≤ max 0 (0 - 0); omega, by show max (0 : Int) (0 - 0) ≤ 9000; omega⟩
  · omega
def lvS (d : List Int) (v : Int) (out : List (Int × Int)) : Nat → Int × List (Int × Int)
  | 0 => (-1, out)
  | k + 1 =>
    let x := lvS d v out k
    if d.getD k default > v ∧ x.1 < 0 then ((k : Int), x.2) else if d.getD k default ≤ v ∧ x.1 ≥ 0 then (-1, x.2 ++ [(x.1, (k : Int) - 1)]) else x
theorem lv_a {d : List Int} {v : Int} {out : List (Int × Int)} {k : Nat} (h : d.getD k default > v) (h2 : (lvS d v out k).1 < 0) : lvS d v out (k + 1) = ((k : Int), (lvS d v out k).2) := by
  rw [lvS]; rw [if_pos ⟨h, h2⟩]
theorem lv_b {d : List Int} {v : Int} {out : List (Int × Int)} {k : Nat} (h : d.getD k default ≤ v) (h2 : (lvS d v out k).1 ≥ 0) : lvS d v out (k + 1) = (-1, (lvS d v out k).2 ++ [((lvS d v out k).1, (k : Int) - 1)]) := by
  rw [lvS]; rw [if_neg (by omega), if_pos ⟨h, h2⟩]
theorem lv_c {d : List Int} {v : Int} {out : List (Int × Int)} {k : Nat} (h : ¬ (d.getD k default > v ∧ (lvS d v out k).1 < 0)) (h2 : ¬ (d.getD k default ≤ v ∧ (lvS d v out k).1 ≥ 0)) : lvS d v out (k + 1) = lvS d v out k := by
  rw [lvS]; rw [if_neg h, if_neg h2]
theorem lv_bd {d : List Int} {v : Int} {out : List (Int × Int)} : ∀ k, -1 ≤ (lvS d v out k).1 ∧ (lvS d v out k).1 ≤ k ∧ (lvS d v out k).2.length ≤ out.length + k
  | 0 => by unfold lvS; simp
  | k + 1 => by
    have := lv_bd (d := d) (v := v) (out := out) k
    rw [lvS]
    split
    · dsimp only; omega
    · split
      · dsimp only; rw [List.length_append]; simp; omega
      · omega
def psS (d : List Int) : Nat → List (Int × Int)
  | 0 => []
  | v + 1 => (lvS d (v : Int) (psS d v) d.length).2
theorem ps_len {d : List Int} : ∀ v, (psS d v).length ≤ v * d.length
  | 0 => by unfold psS; simp
  | v + 1 => by
    have h1 := ps_len (d := d) v
    have h2 := (lv_bd (d := d) (v := (v : Int)) (out := psS d v) d.length).2.2
    rw [Nat.succ_mul]
    unfold psS
    omega
def mxS (d : List Int) : Int := d.foldl max (d.getD 0 default)
def beg (d : List Int) (x : Int × Int) : List Int := (d.set x.1.toNat (d.getD x.1.toNat default + 1)).set (x.2.toNat + 1) ((d.set x.1.toNat (d.getD x.1.toNat default + 1)).getD (x.2.toNat + 1) default - 1)
def begS (n : Nat) (l : List (Int × Int)) (k : Nat) : List Int := (l.take k).foldl beg (List.replicate (n + 1) 0)
def smS (d : List Int) : Nat → List Int
  | 0 => d
  | k + 1 => (smS d k).set (k + 1) ((smS d k).getD (k + 1) default + (smS d k).getD k default)
def lsB (pf : Bool) (a b : Int × Int) : Bool := if pf then decide (a.2 < b.2) || (decide (a.2 = b.2) && decide (a.1 < b.1)) else decide (a.1 < b.1) || (decide (a.1 = b.1) && decide (a.2 < b.2))
abbrev RsT := (Int × Int) × Int
def loS (pf : Bool) (own : Int → Int × Int) (lo : Int) (b1 b2 : Int) : Nat → Option RsT
  | 0 => none
  | k + 1 =>
    let x := loS pf own lo b1 b2 k; let h := lo + (k : Int)
    if h < b1 ∨ h > b2 then x else
    match x with
    | none => some (own h, h)
    | some r => if lsB pf (own h) r.1 then some (own h, h) else some r
def unR (x : Option RsT) : RsT := match x with | none => ((0, 0), 0) | some r => r
def ownS (ps : List CvT) (beh : Nat → Int → RsT) (at_ : Nat) (deep h : Int) : Int × Int :=
  ((beh at_ h).1.1 + max 0 (h - (ps.getD at_ default).bd), (beh at_ h).1.2 + max 0 (max 0 ((ps.getD at_ default).bd - h) - deep))
def lowS (pf : Bool) (st : Int) (ps : List CvT) (beh : Nat → Int → RsT) (at_ : Nat) (deep b1 b2 : Int) : RsT :=
  unR (loS pf (ownS ps beh at_ deep) ((bnd st ps).getD at_ default).1 b1 b2 (((bnd st ps).getD at_ default).2 - ((bnd st ps).getD at_ default).1 + 1).toNat)
def behS (pf : Bool) (st : Int) (ps : List CvT) : Nat → Nat → Int → RsT
  | 0, _, _ => ((0, 0), 0)
  | f + 1, a, h => lowS pf st ps (behS pf st ps f) (a + 1) (max 0 ((ps.getD a default).bd - h)) (h - st) (h + st)
def fstS (pf : Bool) (st : Int) (ps : List CvT) : RsT := lowS pf st ps (behS pf st ps (ps.length - 1)) 0 0 0 9000
def srfS (pf : Bool) (st : Int) (ps : List CvT) : Nat → Int
  | 0 => (fstS pf st ps).2
  | k + 1 => (behS pf st ps (ps.length - 1 - k) k (srfS pf st ps k)).2
theorem lo_skip {pf : Bool} {own : Int → Int × Int} {lo b1 b2 : Int} {k : Nat} (h : lo + (k : Int) < b1 ∨ lo + (k : Int) > b2) : loS pf own lo b1 b2 (k + 1) = loS pf own lo b1 b2 k := by
  rw [loS]; rw [if_pos h]
theorem lo_new {pf : Bool} {own : Int → Int × Int} {lo b1 b2 : Int} {k : Nat} (h : ¬ (lo + (k : Int) < b1 ∨ lo + (k : Int) > b2)) (h2 : loS pf own lo b1 b2 k = none) : loS pf own lo b1 b2 (k + 1) = some (own (lo + k), lo + k) := by
  rw [loS]; rw [if_neg h, h2]
theorem lo_less {pf : Bool} {own : Int → Int × Int} {lo b1 b2 : Int} {k : Nat} {r : RsT} (h : ¬ (lo + (k : Int) < b1 ∨ lo + (k : Int) > b2)) (h2 : loS pf own lo b1 b2 k = some r) (h3 : lsB pf (own (lo + k)) r.1 = true) : loS pf own lo b1 b2 (k + 1) = some (own (lo + k), lo + k) := by
  rw [loS]; rw [if_neg h, h2]; dsimp only; rw [if_pos h3]
theorem lo_stay {pf : Bool} {own : Int → Int × Int} {lo b1 b2 : Int} {k : Nat} {r : RsT} (h : ¬ (lo + (k : Int) < b1 ∨ lo + (k : Int) > b2)) (h2 : loS pf own lo b1 b2 k = some r) (h3 : lsB pf (own (lo + k)) r.1 = false) : loS pf own lo b1 b2 (k + 1) = some r := by
  rw [loS]; rw [if_neg h, h2]; dsimp only; rw [if_neg (by rw [h3]; decide)]
def RsOk (m : Int) (lo hi : Int) (r : RsT) : Prop := (0 ≤ r.1.1 ∧ r.1.1 ≤ m) ∧ (0 ≤ r.1.2 ∧ r.1.2 ≤ m) ∧ (lo ≤ r.2 ∧ r.2 ≤ hi)
theorem gd_set {E : Type} [Inhabited E] {l : List E} {k j : Nat} {v : E} (hj : j < l.length) : (l.set k v).getD j default = if k = j then v else l.getD j default := by
  rw [List.getD_eq_getElem?_getD, List.getElem?_set]
  by_cases e : k = j
  · subst e; rw [if_pos rfl, if_pos hj, if_pos rfl]; rfl
  · rw [if_neg e, if_neg e, ← List.getD_eq_getElem?_getD]
theorem bst_at {l : List (Int × Int)} {i k j : Nat} (hj : j < l.length) : (bst st l i k).getD j default = if k = j then (max (l.getD j default).1 ((l.getD i default).1 - st), min (l.getD j default).2 ((l.getD i default).2 + st)) else l.getD j default := by
  unfold bst
  rw [gd_set hj]
  by_cases e : k = j
  · subst e; rfl
  · rw [if_neg e, if_neg e]
theorem bndF_0 {j : Nat} (hj : j < ps.length) : (bndF st ps 0).getD j default = ((ps.getD j default).lo, (ps.getD j default).hi) := by
  unfold bndF
  rw [List.take_zero, List.foldl_nil, List.getD_eq_getElem?_getD, List.getElem?_map, List.getElem?_eq_getElem hj, List.getD_eq_getElem?_getD, List.getElem?_eq_getElem hj]
  rfl
def Bands (ps : List CvT) : Prop := ∀ i, i < ps.length → (0 ≤ (ps.getD i default).lo ∧ (ps.getD i default).lo ≤ 9000) ∧ (0 ≤ (ps.getD i default).hi ∧ (ps.getD i default).hi ≤ 9000)
theorem Good.bands (g : Good st ps) : Bands ps := fun i hi => ⟨(g.p i hi).1.2.1, (g.p i hi).1.2.2⟩
theorem Bands.take (h : Bands ps) (k : Nat) : Bands (ps.take k) := fun i hi => by
  rw [List.length_take] at hi
  have := h i (by omega)
  rwa [List.getD_eq_getElem?_getD, List.getElem?_take_of_lt (by omega), ← List.getD_eq_getElem?_getD]
theorem Bands.drop (h : Bands ps) (k : Nat) : Bands (ps.drop k) := fun i hi => by
  rw [List.length_drop] at hi
  have := h (k + i) (by omega)
  rwa [List.getD_eq_getElem?_getD, List.getElem?_drop, ← List.getD_eq_getElem?_getD]
theorem bndF_in (hb : Bands ps) (hst : 0 ≤ st) : ∀ k, k ≤ (nbs ps.length).length → ∀ j, j < ps.length → ((ps.getD j default).lo ≤ ((bndF st ps k).getD j default).1 ∧ ((bndF st ps k).getD j default).1 ≤ 9000) ∧ (0 ≤ ((bndF st ps k).getD j default).2 ∧ ((bndF st ps k).getD j default).2 ≤ (ps.getD j default).hi)
  | 0, _, j, hj => by
    have := hb j hj
    rw [bndF_0 hj]
    dsimp only; omega
  | k + 1, hk, j, hj => by
    obtain ⟨x, hx⟩ : ∃ x, (nbs ps.length)[k]? = some x := ⟨_, List.getElem?_eq_getElem (by omega)⟩
    have hn := nbs_in hx
    have h0 := hb j hj
    have h1 := bndF_in hb hst k (by omega) j hj
    have h2 := bndF_in hb hst k (by omega) x.1 hn.1
    have h3 := hb x.1 hn.1
    rw [bndF_succ hx, bst_at (by rw [bndF_len]; exact hj)]
    split
    · dsimp only; omega
    · exact h1
end
end Go.Proofs.Ytfbglomliankmaa.Cv
end
section
set_option linter.unusedSimpArgs false
set_option linter.unusedVariables false
namespace Go.Proofs.Ytfbglomliankmaa.Cv
open Go
section
variable {st : Int} {ps : List CvT} {s : List Int}
theorem lo_some {pf : Bool} {own : Int → Int × Int} {lo b1 b2 : Int} {r : RsT} : ∀ {k : Nat}, loS pf own lo b1 b2 k = some r → r.1 = own r.2 ∧ lo ≤ r.2 ∧ r.2 < lo + (k : Int)
  | 0, h => by unfold loS at h; cases h
  | k + 1, h => by
    by_cases h1 : lo + (k : Int) < b1 ∨ lo + (k : Int) > b2
    · rw [lo_skip h1] at h
      have := lo_some h
      exact ⟨this.1, this.2.1, by omega⟩
    · cases h2 : loS pf own lo b1 b2 k with
      | none =>
        rw [lo_new h1 h2] at h
        obtain rfl := Option.some.inj h
        exact ⟨rfl, by show lo ≤ lo + (k : Int); omega, by show lo + (k : Int) < lo + ((k + 1 : Nat) : Int); omega⟩
      | some r0 =>
        cases h3 : lsB pf (own (lo + k)) r0.1 with
        | true =>
          rw [lo_less h1 h2 h3] at h
          obtain rfl := Option.some.inj h
          exact ⟨rfl, by show lo ≤ lo + (k : Int); omega, by show lo + (k : Int) < lo + ((k + 1 : Nat) : Int); omega⟩
        | false =>
          rw [lo_stay h1 h2 h3] at h
          obtain rfl := Option.some.inj h
          have := lo_some h2
          exact ⟨this.1, this.2.1, by omega⟩
theorem bnd_ok (g : Good st ps) {a : Nat} (ha : a < ps.length) : (0 ≤ ((bnd st ps).getD a default).1 ∧ ((bnd st ps).getD a default).1 ≤ 9000) ∧ (0 ≤ ((bnd st ps).getD a default).2 ∧ ((bnd st ps).getD a default).2 ≤ 9000) := by
  have h1 := bndF_in g.bands g.s.1 _ (Nat.le_refl _) a ha
  have h2 := g.bands a ha
  unfold bnd
  omega
theorem ownS_ok (g : Good st ps) {beh : Nat → Int → RsT} {a : Nat} {deep h m : Int} (ha : a < ps.length) (hb : (0 ≤ (beh a h).1.1 ∧ (beh a h).1.1 ≤ m) ∧ (0 ≤ (beh a h).1.2 ∧ (beh a h).1.2 ≤ m)) (hh : 0 ≤ h ∧ h ≤ 9000) (hd : 0 ≤ deep) :
    (0 ≤ (ownS ps beh a deep h).1 ∧ (ownS ps beh a deep h).1 ≤ m + 9000) ∧ (0 ≤ (ownS ps beh a deep h).2 ∧ (ownS ps beh a deep h).2 ≤ m + 9000) := by
  have h2 := g.p a ha
  unfold ownS
  dsimp only
  omega
theorem loS_ok (g : Good st ps) {pf : Bool} {beh : Nat → Int → RsT} {a : Nat} {deep b1 b2 m : Int} (ha : a < ps.length) (hm : 0 ≤ m) (hb : ∀ h, (0 ≤ (beh a h).1.1 ∧ (beh a h).1.1 ≤ m) ∧ (0 ≤ (beh a h).1.2 ∧ (beh a h).1.2 ≤ m)) (hd : 0 ≤ deep) {k : Nat} (hk : k ≤ (((bnd st ps).getD a default).2 - ((bnd st ps).getD a default).1 + 1).toNat) :
    RsOk (m + 9000) 0 9000 (unR (loS pf (ownS ps beh a deep) ((bnd st ps).getD a default).1 b1 b2 k)) := by
  have hx := bnd_ok g ha
  cases h : loS pf (ownS ps beh a deep) ((bnd st ps).getD a default).1 b1 b2 k with
  | none => exact ⟨⟨Int.le_refl _, by show 0 ≤ m + 9000; omega⟩, ⟨Int.le_refl _, by show 0 ≤ m + 9000; omega⟩, ⟨Int.le_refl _, by show (0 : Int) ≤ 9000; decide⟩⟩
  | some r =>
    have h1 := lo_some h
    have hh : 0 ≤ r.2 ∧ r.2 ≤ 9000 := by omega
    have h2 := ownS_ok g ha (hb r.2) hh hd
    rw [← h1.1] at h2
    exact ⟨h2.1, h2.2, hh⟩
theorem behS_ok (g : Good st ps) {pf : Bool} : ∀ f a h, a + f + 1 ≤ ps.length → RsOk (9000 * (f : Int)) 0 9000 (behS pf st ps f a h)
  | 0, a, h, _ => ⟨⟨Int.le_refl _, by simp [behS]⟩, ⟨Int.le_refl _, by simp [behS]⟩, ⟨Int.le_refl _, by simp [behS]⟩⟩
  | f + 1, a, h, ha => by
    have := loS_ok g (pf := pf) (beh := behS pf st ps f) (a := a + 1) (deep := max 0 ((ps.getD a default).bd - h)) (b1 := h - st) (b2 := h + st) (m := 9000 * (f : Int)) (by omega) (by omega) (fun h => ⟨(behS_ok g f (a + 1) h (by omega)).1, (behS_ok g f (a + 1) h (by omega)).2.1⟩) (by omega) (Nat.le_refl _)
    rw [show (9000 : Int) * ((f + 1 : Nat) : Int) = 9000 * (f : Int) + 9000 by omega]
    exact this
theorem fstS_ok (g : Good st ps) {pf : Bool} : RsOk (9000 * (ps.length : Int)) 0 9000 (fstS pf st ps) := by
  have hn := g.n
  have := loS_ok g (pf := pf) (beh := behS pf st ps (ps.length - 1)) (a := 0) (deep := 0) (b1 := 0) (b2 := 9000) (m := 9000 * ((ps.length - 1 : Nat) : Int)) (by omega) (by omega) (fun h => ⟨(behS_ok g _ 0 h (by omega)).1, (behS_ok g _ 0 h (by omega)).2.1⟩) (Int.le_refl _) (Nat.le_refl _)
  have e : (9000 : Int) * (ps.length : Int) = 9000 * ((ps.length - 1 : Nat) : Int) + 9000 := by omega
  rw [e]
  exact this
theorem srfS_ok (g : Good st ps) {pf : Bool} : ∀ k, k < ps.length → 0 ≤ srfS pf st ps k ∧ srfS pf st ps k ≤ 9000
  | 0, _ => (fstS_ok g).2.2
  | k + 1, h => (behS_ok g _ k _ (by omega)).2.2
def srfN (pf : Bool) (st : Int) (ps : List CvT) (k : Nat) : List Int := (List.range k).map (srfS pf st ps)
theorem srfN_s {pf : Bool} {k : Nat} : srfN pf st ps (k + 1) = srfN pf st ps k ++ [srfS pf st ps k] := by unfold srfN; rw [List.range_succ, List.map_append]; rfl
def trn (l : List Int) (k : Nat) : Int := if l.length = 0 then 0 else l.getD (k % l.length) default
theorem trn_bd {l : List Int} (h : ∀ x ∈ l, 0 ≤ x ∧ x ≤ 255) (k : Nat) : 0 ≤ trn l k ∧ trn l k ≤ 255 := by
  unfold trn
  split
  · omega
  · rename_i h0
    exact h _ (K.gt_mem (Nat.mod_lt _ (by omega)))
def anyLo (st : Int) (ps : List CvT) (k : Nat) (b : Int) : Int := if 0 < k then max (ps.getD k default).lo (b - st) else (ps.getD k default).lo
def anyHi (st : Int) (ps : List CvT) (k : Nat) (b : Int) : Int := if 0 < k then min (ps.getD k default).hi (b + st) else (ps.getD k default).hi
def anyX (st : Int) (ps : List CvT) (l : List Int) (k : Nat) (b : Int) : Int :=
  if anyLo st ps k b > anyHi st ps k b then (ps.getD k default).lo + trn l k % ((ps.getD k default).lo - (ps.getD k default).lo + 1)
  else anyLo st ps k b + trn l k % (anyHi st ps k b - anyLo st ps k b + 1)
def anyS (st : Int) (ps : List CvT) (l : List Int) : Nat → List Int
  | 0 => []
  | k + 1 => anyS st ps l k ++ [anyX st ps l k ((anyS st ps l k).getD (k - 1) default)]
theorem anyS_len {l : List Int} : ∀ {k : Nat}, (anyS st ps l k).length = k
  | 0 => rfl
  | k + 1 => by unfold anyS; rw [List.length_append, anyS_len]; rfl
theorem anyX_bd (g : Good st ps) {l : List Int} (h : ∀ x ∈ l, 0 ≤ x ∧ x ≤ 255) {k : Nat} {b : Int} (hb : 0 ≤ b ∧ b ≤ 9000) (hk : k < ps.length) : 0 ≤ anyX st ps l k b ∧ anyX st ps l k b ≤ 9000 := by
  have h1 := g.p k hk
  have h2 := g.s
  have h3 := trn_bd h k
  unfold anyX
  split
  · have h4 := Int.emod_nonneg (trn l k) (show (ps.getD k default).lo - (ps.getD k default).lo + 1 ≠ 0 by omega)
    have h5 := Int.emod_lt_of_pos (trn l k) (show 0 < (ps.getD k default).lo - (ps.getD k default).lo + 1 by omega)
    omega
  · rename_i h0
    have hlo : 0 ≤ anyLo st ps k b := by unfold anyLo; split <;> omega
    have hhi : anyHi st ps k b ≤ 9000 := by unfold anyHi; split <;> omega
    have h4 := Int.emod_nonneg (trn l k) (show anyHi st ps k b - anyLo st ps k b + 1 ≠ 0 by omega)
    have h5 := Int.emod_lt_of_pos (trn l k) (show 0 < anyHi st ps k b - anyLo st ps k b + 1 by omega)
    omega
theorem anyS_bd (g : Good st ps) {l : List Int} (h : ∀ x ∈ l, 0 ≤ x ∧ x ≤ 255) : ∀ k, k ≤ ps.length → ∀ x ∈ anyS st ps l k, 0 ≤ x ∧ x ≤ 9000
  | 0, _ => fun x hx => by simp [anyS] at hx
  | k + 1, hk => fun x hx => by
    have ih := anyS_bd g h k (by omega)
    unfold anyS at hx
    rcases List.mem_append.1 hx with hx | hx
    · exact ih x hx
    · rw [List.mem_singleton] at hx
      subst hx
      refine anyX_bd g h ?_ (by omega)
      by_cases e : k = 0
      · subst e; exact ⟨by simp [anyS], by simp [anyS]⟩
      · exact ih _ (K.gt_mem (by rw [anyS_len]; omega))
end
def rowR : List CvT := [⟨10, 4, 8⟩, ⟨10, 9, 12⟩, ⟨6, 7, 9⟩, ⟨12, 3, 6⟩]
def rowT : List CvT := [⟨10, 0, 20⟩, ⟨8, 0, 20⟩]
theorem rowR_2 : chk 2 rowR = (0, 0, 0) := by decide +kernel
theorem rowR_1 : chk 1 rowR = (0, 0, 0) := by decide +kernel
theorem rowT_0 : chk 0 rowT = (0, 0, 0) := by decide +kernel
theorem ex_bnd : bndE 2 rowR = 0 ∧ bndL 2 rowR = [(7, 8), (9, 10), (7, 8), (5, 6)] := by decide +kernel
theorem ex_prv : (∀ b, b < 3 → someB 1 (rowR.take (b + 1)) = true) ∧ someB 1 (rowR.take 4) = false ∧ someB 1 (rowR.drop 3) = true ∧ someB 1 (rowR.drop 2) = true ∧ someB 1 (rowR.drop 1) = false := by decide +kernel
theorem ex_need : needS rowR = 2 := by decide +kernel
theorem ex_pl : plS rowR [8, 9, 8, 6] 4 = 2 := by decide +kernel
theorem ex_b1 : someB 2 rowR = true ∧ srfN false 2 rowR 4 = [8, 9, 7, 6] ∧ (fstS false 2 rowR).1 = (1, 8) := by decide +kernel
theorem ex_b2 : someB 0 rowT = true ∧ srfN true 0 rowT 2 = [10, 10] ∧ (fstS true 0 rowT).1 = (2, 0) := by decide +kernel
end Go.Proofs.Ytfbglomliankmaa.Cv
end
section
set_option linter.unusedSimpArgs false
set_option linter.unusedVariables false
namespace Go.Proofs.Ytfbglomliankmaa.Sc
open Go
def outB (lo hi : Int) (xs : List Int) : Bool := xs.any fun n => decide (n < lo) || decide (n > hi)
def cm (a b : Int) : Bool := (List.range 29).any fun i => decide (a % ((i : Int) + 2) = 0) && decide (b % ((i : Int) + 2) = 0)
def scE (u d : Int) : Int := if 1 ≤ u ∧ u ≤ 30 ∧ 1 ≤ d ∧ d ≤ 30 then (if cm u d then 6 else 0) else 7
theorem cm_true {a b n : Int} (h2 : 2 ≤ n) (h30 : n ≤ 30) (ha : a % n = 0) (hb : b % n = 0) : cm a b = true := by
  refine List.any_eq_true.2 ⟨(n - 2).toNat, List.mem_range.2 (by omega), ?_⟩
  have e : (((n - 2).toNat : Nat) : Int) + 2 = n := by omega
  simp only [e, ha, hb, decide_true, Bool.and_self]
theorem cm_false {a b : Int} (h : ∀ n : Int, 2 ≤ n → n ≤ 30 → ¬ (a % n = 0 ∧ b % n = 0)) : cm a b = false := by
  unfold cm
  rw [List.any_eq_false]
  intro i hi
  have := h ((i : Int) + 2) (by omega) (by have := List.mem_range.1 hi; omega)
  simpa using this
def cutS (kind h a b : Int) : Int := h * a / b + (if kind = 3 ∧ 0 < h * a % b ∨ kind = 2 ∧ b ≤ 2 * (h * a % b) then 1 else 0)
def rndS (kind n b : Int) : Int := if kind = 1 then n / b else if kind = 2 then (2 * n + b) / (2 * b) else (n + b - 1) / b
theorem ediv_of {n d q r : Int} (hd : 0 < d) (h : n = d * q + r) (h0 : 0 ≤ r) (h1 : r < d) : n / d = q := by
  rw [h, Int.mul_comm, Int.add_comm, Int.add_mul_ediv_right _ _ (by omega), Int.ediv_eq_zero_of_lt h0 h1]; omega
theorem rnd_cut {kind h a b : Int} (hk : 1 ≤ kind ∧ kind ≤ 3) (hb : 1 ≤ b) : rndS kind (h * a) b = cutS kind h a b := by
  unfold rndS cutS
  generalize h * a = n
  have hd := Int.mul_ediv_add_emod n b
  have h0 := Int.emod_nonneg n (show b ≠ 0 by omega)
  have h1 := Int.emod_lt_of_pos n (show 0 < b by omega)
  generalize n / b = q at *
  generalize n % b = r at *
  have hn : n = b * q + r := hd.symm
  have e1 : 2 * b * q = 2 * (b * q) := by rw [Int.mul_assoc]
  have e2 : 2 * b * (q + 1) = 2 * (b * q) + 2 * b := by rw [Int.mul_add, Int.mul_one, e1]
  have e3 : b * (q + 1) = b * q + b := by rw [Int.mul_add, Int.mul_one]
  rcases (show kind = 1 ∨ kind = 2 ∨ kind = 3 by omega) with hk1 | hk1 | hk1
  · rw [if_pos hk1, if_neg (by omega), Int.add_zero]
  · rw [if_neg (by omega), if_pos hk1]
    by_cases hc : b ≤ 2 * r
    · rw [if_pos (by omega)]; exact ediv_of (r := 2 * r - b) (by omega) (by omega) (by omega) (by omega)
    · rw [if_neg (by omega), Int.add_zero]; exact ediv_of (r := 2 * r + b) (by omega) (by omega) (by omega) (by omega)
  · rw [if_neg (by omega), if_neg (by omega)]
    by_cases hc : 0 < r
    · rw [if_pos (by omega)]; exact ediv_of (r := r - 1) (by omega) (by omega) (by omega) (by omega)
    · rw [if_neg (by omega), Int.add_zero]; exact ediv_of (r := b - 1) (by omega) (by omega) (by omega) (by omega)
def hE (base h : Int) : Int := if base ≤ h ∧ h ≤ 9000 then 0 else 7
def roadE (n : Int) (r : Int × Int) : Int := if (0 ≤ r.1 ∧ r.1 ≤ n - 1) ∧ (0 ≤ r.2 ∧ r.2 ≤ n - 1) then (if r.1 = r.2 then 2 else 0) else 4
def chk (kind base most : Int) (hs : List Int) (rs : List (Int × Int)) : Int × Int × Int :=
  if ¬ (1 ≤ kind ∧ kind ≤ 3) then (1, 0, 2)
  else if ¬ ((0 ≤ base ∧ base ≤ 9000) ∧ (0 ≤ most ∧ most ≤ 100000)) then (1, 0, 7)
  else if ¬ (1 ≤ hs.length ∧ hs.length ≤ 8) ∨ rs.length > 8 then (1, 0, 3)
  else if (K.fst (hE base) hs).2 ≠ 0 then (2, K.fst (hE base) hs)
  else if (K.fst (roadE hs.length) rs).2 ≠ 0 then (3, K.fst (roadE hs.length) rs)
  else (0, 0, 0)
section
variable {kind base most : Int} {hs : List Int} {rs : List (Int × Int)}
theorem chk_1 (h : ¬ (1 ≤ kind ∧ kind ≤ 3)) : chk kind base most hs rs = (1, 0, 2) := by unfold chk; rw [if_pos h]
theorem chk_2 (h1 : 1 ≤ kind ∧ kind ≤ 3) (h : ¬ ((0 ≤ base ∧ base ≤ 9000) ∧ (0 ≤ most ∧ most ≤ 100000))) : chk kind base most hs rs = (1, 0, 7) := by unfold chk; rw [if_neg (by omega), if_pos h]
theorem chk_3 (h1 : 1 ≤ kind ∧ kind ≤ 3) (h2 : (0 ≤ base ∧ base ≤ 9000) ∧ (0 ≤ most ∧ most ≤ 100000)) (h : ¬ (1 ≤ hs.length ∧ hs.length ≤ 8) ∨ rs.length > 8) : chk kind base most hs rs = (1, 0, 3) := by
  unfold chk; rw [if_neg (by omega), if_neg (by omega), if_pos h]
theorem chk_4 (h1 : 1 ≤ kind ∧ kind ≤ 3) (h2 : (0 ≤ base ∧ base ≤ 9000) ∧ (0 ≤ most ∧ most ≤ 100000)) (h3 : (1 ≤ hs.length ∧ hs.length ≤ 8) ∧ rs.length ≤ 8) (h : (K.fst (hE base) hs).2 ≠ 0) : chk kind base most hs rs = (2, K.fst (hE base) hs) := by
  unfold chk; rw [if_neg (by omega), if_neg (by omega), if_neg (by omega), if_pos h]
theorem chk_5 (h1 : 1 ≤ kind ∧ kind ≤ 3) (h2 : (0 ≤ base ∧ base ≤ 9000) ∧ (0 ≤ most ∧ most ≤ 100000)) (h3 : (1 ≤ hs.length ∧ hs.length ≤ 8) ∧ rs.length ≤ 8) (h4 : (K.fst (hE base) hs).2 = 0) (h : (K.fst (roadE hs.length) rs).2 ≠ 0) : chk kind base most hs rs = (3, K.fst (roadE hs.length) rs) := by
  unfold chk; rw [if_neg (by omega), if_neg (by omega), if_neg (by omega), if_neg (by omega), if_pos h]
theorem chk_0 (h1 : 1 ≤ kind ∧ kind ≤ 3) (h2 : (0 ≤ base ∧ base ≤ 9000) ∧ (0 ≤ most ∧ most ≤ 100000)) (h3 : (1 ≤ hs.length ∧ hs.length ≤ 8) ∧ rs.length ≤ 8) (h4 : (K.fst (hE base) hs).2 = 0) (h : (K.fst (roadE hs.length) rs).2 = 0) : chk kind base most hs rs = (0, 0, 0) := by
  unfold chk; rw [if_neg (by omega), if_neg (by omega), if_neg (by omega), if_neg (by omega), if_neg (by omega)]
end
theorem emod_big {a n : Int} (h1 : 1 ≤ a) (h : a < n) : a % n ≠ 0 := by rw [Int.emod_eq_of_lt (by omega) h]; omega
theorem dvs_found {a b : Int} {k : Nat} (h1 : 1 ≤ a) (h2 : a ≤ 30) (hk : (k : Int) < a) (hall : ∀ j : Nat, j < k → ¬ (a % (a - j) = 0 ∧ b % (a - j) = 0)) (ha : a % (a - k) = 0) (hb : b % (a - k) = 0) : decide (a - (k : Int) > 1) = cm a b := by
  by_cases hd : a - (k : Int) > 1
  · rw [cm_true (by omega) (by omega) ha hb]; simpa using hd
  · rw [cm_false]
    · simpa using hd
    · intro n hn _ ⟨h3, h4⟩
      rcases Int.lt_or_le a n with h5 | h5
      · exact emod_big h1 h5 h3
      · have e : n = a - (((a - n).toNat : Nat) : Int) := by omega
        rw [e] at h3 h4
        exact hall (a - n).toNat (by omega) ⟨h3, h4⟩
theorem dvs_none {a b : Int} (h1 : 1 ≤ a) (_h2 : a ≤ 30) (hall : ∀ j : Nat, (j : Int) < a → ¬ (a % (a - j) = 0 ∧ b % (a - j) = 0)) : decide ((1 : Int) > 1) = cm a b := by
  exfalso
  refine hall (a - 1).toNat (by omega) ?_
  have e : a - (((a - 1).toNat : Nat) : Int) = 1 := by omega
  rw [e]; omega
end Go.Proofs.Ytfbglomliankmaa.Sc

namespace Go.Proofs.Ytfbglomliankmaa.Sc
open Go
structure Good (kind base most : Int) (hs : List Int) (rs : List (Int × Int)) : Prop where
  k : 1 ≤ kind ∧ kind ≤ 3
  b : 0 ≤ base ∧ base ≤ 9000
  m : 0 ≤ most ∧ most ≤ 100000
  n : 1 ≤ hs.length ∧ hs.length ≤ 8
  r : rs.length ≤ 8
  h : ∀ h ∈ hs, base ≤ h ∧ h ≤ 9000
  rd : ∀ r ∈ rs, 0 ≤ r.1 ∧ r.1 < hs.length ∧ 0 ≤ r.2 ∧ r.2 < hs.length ∧ r.1 ≠ r.2
theorem fst_zero {E : Type} {q : E → Int} {xs : List E} : (K.fst q xs).2 = 0 ↔ ∀ x ∈ xs, q x = 0 := by
  unfold K.fst
  cases h : xs.findIdx? (fun x => q x != 0) with
  | none =>
    have h' := List.findIdx?_eq_none_iff.1 h
    simp only [true_iff]
    intro x hx; simpa using h' x hx
  | some i =>
    obtain ⟨hi, hp, _⟩ := List.findIdx?_eq_some_iff_getElem.1 h
    have hp' : q xs[i] ≠ 0 := by simpa using hp
    simp only [List.getElem?_eq_getElem hi]
    exact ⟨fun h0 => absurd h0 hp', fun ha => absurd (ha _ (List.getElem_mem hi)) hp'⟩
section
variable {kind base most : Int} {hs : List Int} {rs : List (Int × Int)}
theorem hE_eq {h : Int} : hE base h = 0 ↔ base ≤ h ∧ h ≤ 9000 := by unfold hE; split <;> simp_all
theorem roadE_eq {n : Int} {r : Int × Int} : roadE n r = 0 ↔ 0 ≤ r.1 ∧ r.1 < n ∧ 0 ≤ r.2 ∧ r.2 < n ∧ r.1 ≠ r.2 := by
  unfold roadE
  split
  · split
    · constructor
      · intro h; omega
      · intro h; omega
    · constructor
      · intro _; omega
      · intro _; rfl
  · constructor
    · intro h; omega
    · intro h; omega
theorem chk_good (h : (chk kind base most hs rs).2.2 = 0) : Good kind base most hs rs := by
  unfold chk at h
  split at h
  · exact absurd h (by decide)
  split at h
  · exact absurd h (by decide)
  split at h
  · exact absurd h (by decide)
  split at h
  · rename_i h4; exact absurd h h4
  split at h
  · rename_i h5; exact absurd h h5
  rename_i h1 h2 h3 h4 h5
  have h4' := fst_zero.1 (Decidable.not_not.1 h4)
  have h5' := fst_zero.1 (Decidable.not_not.1 h5)
  exact ⟨by omega, by omega, by omega, by omega, by omega, fun x hx => hE_eq.1 (h4' x hx), fun x hx => roadE_eq.1 (h5' x hx)⟩
theorem Good.chk (g : Good kind base most hs rs) : chk kind base most hs rs = (0, 0, 0) := by
  have h1 := g.k; have h2 := g.b; have h3 := g.m; have h4 := g.n; have h5 := g.r
  refine chk_0 h1 ⟨h2, h3⟩ ⟨h4, h5⟩ (fst_zero.2 fun x hx => hE_eq.2 (g.h x hx)) (fst_zero.2 fun x hx => roadE_eq.2 (g.rd x hx))
theorem Good.at (g : Good kind base most hs rs) {i : Nat} (h : i < hs.length) : base ≤ hs.getD i default ∧ hs.getD i default ≤ 9000 := g.h _ (K.gt_mem h)
theorem Good.road (g : Good kind base most hs rs) {i : Nat} (h : i < rs.length) : 0 ≤ (rs.getD i default).1 ∧ (rs.getD i default).1 < hs.length ∧ 0 ≤ (rs.getD i default).2 ∧ (rs.getD i default).2 < hs.length ∧ (rs.getD i default).1 ≠ (rs.getD i default).2 := g.rd _ (K.gt_mem h)
end
theorem scE_ok {u d : Int} (h : scE u d = 0) : 1 ≤ u ∧ u ≤ 30 ∧ 1 ≤ d ∧ d ≤ 30 ∧ cm u d = false := by
  unfold scE at h
  split at h
  · split at h
    · omega
    · rename_i h1 h2; exact ⟨h1.1, h1.2.1, h1.2.2.1, h1.2.2.2, by simpa using h2⟩
  · omega
@[reducible] def Parts (u d : Int) : Prop := 1 ≤ u ∧ u ≤ 30 ∧ 1 ≤ d ∧ d ≤ 30
theorem scE_parts {u d : Int} (h : scE u d = 0) : Parts u d := by have := scE_ok h; exact ⟨this.1, this.2.1, this.2.2.1, this.2.2.2.1⟩
theorem mul_bd {a b A B : Int} (h0 : 0 ≤ a) (h1 : a ≤ A) (h2 : 0 ≤ b) (h3 : b ≤ B) : 0 ≤ a * b ∧ a * b ≤ A * B := ⟨Int.mul_nonneg h0 h2, Int.mul_le_mul h1 h3 h2 (by omega)⟩
theorem cutS_bd {kind h u d : Int} (h0 : 0 ≤ h) (h1 : h ≤ 9000) (hp : Parts u d) : 0 ≤ cutS kind h u d ∧ cutS kind h u d ≤ 270001 := by
  have hm := mul_bd h0 h1 (show 0 ≤ u by omega) (show u ≤ 30 by omega)
  unfold cutS
  generalize h * u = n at *
  have h2 : 0 ≤ n / d := Int.ediv_nonneg (by omega) (by omega)
  have h3 : n / d ≤ n := Int.ediv_le_self _ (by omega)
  split <;> omega
@[reducible] def ct (kind base u d h : Int) : Int := cutS kind (h - base) u d
def cuts (kind base u d : Int) (hs : List Int) : List Int := hs.map (ct kind base u d)
theorem cuts_len {kind base u d : Int} {hs : List Int} : (cuts kind base u d hs).length = hs.length := by simp [cuts]
theorem getD_map {α β : Type} [Inhabited α] [Inhabited β] (f : α → β) (xs : List α) {i : Nat} (h : i < xs.length) : (xs.map f).getD i default = f (xs.getD i default) := by
  simp [List.getD_eq_getElem?_getD, h]
theorem cuts_at {kind base u d : Int} {hs : List Int} {i : Nat} (h : i < hs.length) : (cuts kind base u d hs).getD i default = ct kind base u d (hs.getD i default) := getD_map _ _ h
def a8 (xs : List Int) : List Value := (List.range 8).map fun i => .int .i64 (xs.getD i default)
theorem a8_len {xs : List Int} : (a8 xs).length = 8 := by simp [a8]
theorem a8_nil : a8 [] = [.int .i64 0, .int .i64 0, .int .i64 0, .int .i64 0, .int .i64 0, .int .i64 0, .int .i64 0, .int .i64 0] := rfl
theorem nth_a8 {xs : List Int} {i : Nat} (h : i < 8) : K.nth (a8 xs) i = .int .i64 (xs.getD i default) := by
  rw [K.nth_eq]
  simp [a8, List.getElem?_map, List.getElem?_range h]
theorem a8_flat {xs : List Int} (h : xs.length ≤ 8) : a8 xs = xs.flatMap K.eI ++ List.replicate (8 - xs.length) (.int .i64 0) := by
  have e1 : xs.flatMap K.eI = xs.map (Value.int .i64) := by
    induction xs with
    | nil => rfl
    | cons x xs ih => simp [List.flatMap_cons, ih (by simp at h; omega)]
  rw [e1]
  apply List.ext_getElem?
  intro i
  rw [List.getElem?_append]
  simp only [List.length_map, a8, List.getElem?_map, List.getElem?_replicate]
  rcases Nat.lt_or_ge i 8 with h8 | h8
  · rw [List.getElem?_range h8]
    rcases Nat.lt_or_ge i xs.length with h1 | h1
    · simp [h1, List.getD_eq_getElem?_getD]
    · have h2 : i - xs.length < 8 - xs.length := by omega
      simp [List.getD_eq_getElem?_getD, h2, Nat.not_lt.2 h1]
  · have h1 : ¬ i < xs.length := by omega
    have h2 : ¬ i - xs.length < 8 - xs.length := by omega
    rw [List.getElem?_eq_none (by simpa using h8)]
    simp [h1, h2]
theorem a8_set {xs : List Int} {v : Int} (h : xs.length < 8) : K.setn (a8 xs) xs.length (.int .i64 v) = a8 (xs ++ [v]) := by
  rw [K.setn_eq]
  apply List.ext_getElem?
  intro i
  rw [List.getElem?_set]
  simp only [a8, List.length_map, List.length_range, List.getElem?_map]
  rcases Nat.lt_or_ge i 8 with h8 | h8
  · rw [List.getElem?_range h8]
    split
    · rename_i h1; subst h1
      simp [h, List.getD_eq_getElem?_getD]
    · rename_i h1
      simp only [List.getD_eq_getElem?_getD, List.getElem?_append, Option.map_some]
      rcases Nat.lt_or_ge i xs.length with h2 | h2
      · simp [h2]
      · have h3 : ¬ i < xs.length := by omega
        have h4 : i - xs.length ≠ 0 := by omega
        simp [h3]
        rw [List.getElem?_eq_none (by simp; omega)]
        rfl
  · rw [List.getElem?_eq_none (by simpa using h8)]
    have h1 : ¬ xs.length = i := by omega
    simp [h1]
theorem take_succ_map {E F : Type} [Inhabited E] (f : E → F) {xs : List E} {k : Nat} (h : k < xs.length) : (xs.take (k + 1)).map f = (xs.take k).map f ++ [f (xs.getD k default)] := by
  rw [List.take_add_one, List.getElem?_eq_getElem h, List.map_append]
  simp [List.getD_eq_getElem?_getD, h]
theorem take_all {E : Type} {xs : List E} {k : Nat} (h : xs.length ≤ k) : xs.take k = xs := List.take_of_length_le h
def fitB (most : Int) (xs : List Int) : Bool := xs.all fun x => decide (x ≤ most)
theorem fitB_snoc {most x : Int} {xs : List Int} : fitB most (xs ++ [x]) = (fitB most xs && decide (x ≤ most)) := by simp [fitB]
@[reducible] def riseS (xs : List Int) (r : Int × Int) : Int := xs.getD r.2.toNat default - xs.getD r.1.toNat default
def offS (u d rise by_ : Int) : Int := if rise = 0 then 0 else (max (1000 * (d * by_ - u * rise)) (-(1000 * (d * by_ - u * rise))) + u * max rise (-rise) - 1) / (u * max rise (-rise))
def selN (p : Nat → Bool) (n : Nat) : List Int := ((List.range n).filter p).map fun (i : Nat) => (i : Int)
theorem selN_succ {p : Nat → Bool} {n : Nat} : selN p (n + 1) = selN p n ++ (if p n then [(n : Int)] else []) := by
  unfold selN
  rw [List.range_succ, List.filter_append, List.map_append]
  split <;> simp_all
theorem selN_len {p : Nat → Bool} {n : Nat} : (selN p n).length ≤ n := by
  unfold selN; rw [List.length_map]
  exact Nat.le_trans (List.length_filter_le _ _) (by simp)
@[reducible] def flatP (hs cs : List Int) (r : Int × Int) : Bool := decide (riseS hs r ≠ 0) && decide (riseS cs r = 0)
def flats (hs cs : List Int) (rs : List (Int × Int)) : List Int := selN (fun i => flatP hs cs (rs.getD i default)) rs.length
def offs (u d : Int) (hs cs : List Int) (rs : List (Int × Int)) : List Int := rs.map fun r => offS u d (riseS hs r) (riseS cs r)
def diffs (xs ys : List Int) : List Int := selN (fun i => decide (xs.getD i default ≠ ys.getD i default)) xs.length
def scsE : List (Int × Int) → Int
  | [] => 0
  | s :: l => if scE s.1 s.2 ≠ 0 then scE s.1 s.2 else scsE l
theorem fst_scsE (l : List (Int × Int)) : (K.fst (fun s : Int × Int => scE s.1 s.2) l).2 = scsE l := by
  induction l with
  | nil => rfl
  | cons s l ih =>
    unfold scsE
    split
    · rename_i h; simp [K.fst, List.findIdx?_cons, h]
    · rename_i h
      have h' : scE s.1 s.2 = 0 := by omega
      rw [← ih]
      simp only [K.fst, List.findIdx?_cons, h', bne_self_eq_false, Bool.false_eq_true, if_false]
      cases l.findIdx? (fun x => scE x.1 x.2 != 0) <;> simp
theorem selN_t {p : Nat → Bool} {n : Nat} (h : p n = true) : selN p (n + 1) = selN p n ++ [(n : Int)] := by rw [selN_succ, if_pos h]
theorem selN_f {p : Nat → Bool} {n : Nat} (h : p n = false) : selN p (n + 1) = selN p n := by rw [selN_succ, h]; simp
@[reducible] def Bd (lo hi : Int) (xs : List Int) : Prop := ∀ i : Nat, lo ≤ xs.getD i default ∧ xs.getD i default ≤ hi
theorem bd_of {lo hi : Int} {xs : List Int} (h0 : lo ≤ 0) (h1 : 0 ≤ hi) (h : ∀ x ∈ xs, lo ≤ x ∧ x ≤ hi) : Bd lo hi xs := fun i => by
  rcases Nat.lt_or_ge i xs.length with h2 | h2
  · exact h _ (K.gt_mem h2)
  · have : xs.getD i default = 0 := by simp [List.getD_eq_getElem?_getD, List.getElem?_eq_none h2]
    rw [this]; exact ⟨h0, h1⟩
theorem Good.bdh {kind base most : Int} {hs : List Int} {rs : List (Int × Int)} (g : Good kind base most hs rs) : Bd 0 9000 hs := bd_of (by omega) (by omega) fun x hx => by
  have := g.h x hx; have := g.b; omega
theorem Good.bdc {kind base most u d : Int} {hs : List Int} {rs : List (Int × Int)} (g : Good kind base most hs rs) (hp : Parts u d) : Bd 0 270001 (cuts kind base u d hs) := bd_of (by omega) (by omega) fun x hx => by
  obtain ⟨y, hy, rfl⟩ := List.mem_map.1 hx
  have := g.h y hy; have := g.b
  exact cutS_bd (by omega) (by omega) hp
theorem mulb {a b A B : Int} (h : 0 ≤ a ∧ a ≤ A) (hb : -B ≤ b ∧ b ≤ B) : -(A * B) ≤ a * b ∧ a * b ≤ A * B := by
  have hB : 0 ≤ B := by omega
  have h1 : a * b ≤ a * B := Int.mul_le_mul_of_nonneg_left hb.2 h.1
  have h2 : a * B ≤ A * B := Int.mul_le_mul_of_nonneg_right h.2 hB
  have h3 : a * (-B) ≤ a * b := Int.mul_le_mul_of_nonneg_left hb.1 h.1
  have h4 : a * (-B) = -(a * B) := Int.mul_neg a B
  omega
theorem load8 {P : Program} {w0 : World} {L : List K.Chunk} {l : List Value} {d : Option Tmp} {ty : TypeId} {ps : String} {af : Array Edge} {g : Option (Nat × Bool)} {t b e : Nat} {x : Operand} {xs : List Int} {z : Int} (ho : K.one P t = true) (hx : K.ev l x = .pointer (some ⟨b, 0 + z.toNat * 1, none⟩))
    (hm : K.blk b e (a8 xs) ∈ L) (h0 : 0 ≤ z) (h8 : z < 8) : K.Sil P w0 L ⟨d, .load t x, ty, ps, af, g⟩ l (.int .i64 (xs.getD z.toNat default)) :=
  (K.load1_ix ho hx hm (by rw [a8_len]; omega)).cast (by rw [nth_a8 (by omega)]; simp)
theorem a8_over {xs : List Int} {v : Int} {z : Int} (h : xs.length < 8) (hz : z = (xs.length : Int)) : K.setn (a8 xs) (0 + z.toNat * 1) (.int .i64 v) = a8 (xs ++ [v]) := by
  subst hz
  have e : 0 + ((xs.length : Int)).toNat * 1 = xs.length := by omega
  rw [e, a8_set h]
theorem snoc_at {xs : List Int} {v z : Int} (hz : z = (xs.length : Int)) : (xs ++ [v]).getD z.toNat default = v := by
  subst hz
  simp [List.getD_eq_getElem?_getD]
theorem rnd_ix {kind : Int} (hk : 1 ≤ kind ∧ kind ≤ 3) : Value.agg ((([Value.func (.func 91) #[] #[], .func (.func 92) #[] #[], .func (.func 93) #[] #[]] : List Value).drop ((kind - 1).toNat * 1)).take 1).toArray = .agg #[.func (.func (90 + kind.toNat)) #[] #[]] := by
  rcases (show kind = 1 ∨ kind = 2 ∨ kind = 3 by omega) with h | h | h <;> subst h <;> rfl
theorem ext_getD {E : Type} [Inhabited E] {xs ys : List E} (hl : xs.length = ys.length) (h : ∀ j, j < xs.length → xs.getD j default = ys.getD j default) : xs = ys := by
  apply List.ext_getElem hl
  intro j h1 h2
  have := h j h1
  simpa [List.getD_eq_getElem?_getD, h1, h2] using this
def askE (kind base most : Int) (hs : List Int) (rs : List (Int × Int)) (u d : Int) : Int := if (chk kind base most hs rs).2.2 ≠ 0 then (chk kind base most hs rs).2.2 else scE u d
theorem Good.road4 {kind base most : Int} {hs : List Int} {rs : List (Int × Int)} (g : Good kind base most hs rs) {i : Nat} (h : i < rs.length) : 0 ≤ (rs.getD i default).1 ∧ (rs.getD i default).1 < hs.length ∧ 0 ≤ (rs.getD i default).2 ∧ (rs.getD i default).2 < hs.length :=
  have := g.road h; ⟨this.1, this.2.1, this.2.2.1, this.2.2.2.1⟩
theorem scsE1 {u v : Int} : scsE [(u, v)] = scE u v := by unfold scsE scsE; split <;> simp_all
theorem scsE2 {u v u2 v2 : Int} : scsE [(u, v), (u2, v2)] = if scE u v ≠ 0 then scE u v else scE u2 v2 := by unfold scsE; rw [scsE1]
section
variable {kind base most : Int} {hs : List Int} {rs : List (Int × Int)} {u v u2 v2 : Int}
theorem askE_bad (h : (chk kind base most hs rs).2.2 ≠ 0) : askE kind base most hs rs u v = (chk kind base most hs rs).2.2 := by unfold askE; rw [if_pos h]
theorem askE_good (g : Good kind base most hs rs) : askE kind base most hs rs u v = scE u v := by unfold askE; rw [g.chk]; rfl
def ask2 (kind base most : Int) (hs : List Int) (rs : List (Int × Int)) (u v u2 v2 : Int) : Int := if askE kind base most hs rs u v ≠ 0 then askE kind base most hs rs u v else scE u2 v2
def cutsR (kind base most : Int) (hs : List Int) (rs : List (Int × Int)) (u v : Int) : List Int := if askE kind base most hs rs u v = 0 then cuts kind base u v hs else []
def offsR (kind base most : Int) (hs : List Int) (rs : List (Int × Int)) (u v : Int) : List Int := if askE kind base most hs rs u v = 0 then offs u v hs (cuts kind base u v hs) rs else []
def flatsR (kind base most : Int) (hs : List Int) (rs : List (Int × Int)) (u v : Int) : List Int := if askE kind base most hs rs u v = 0 then flats hs (cuts kind base u v hs) rs else []
def apartR (kind base most : Int) (hs : List Int) (rs : List (Int × Int)) (u v u2 v2 : Int) : List Int := if ask2 kind base most hs rs u v u2 v2 = 0 then diffs (cuts kind base u v hs) (cuts kind base u2 v2 hs) else []
end
def litA8 (xs : List Int) : List Lit := (List.range 8).map fun i => .int .i64 (xs.getD i default)
theorem litA8_eq {xs ys : List Int} (hl : xs.length = ys.length) (h8 : xs.length ≤ 8) : litA8 xs = litA8 ys ↔ xs = ys := by
  constructor
  · intro h
    refine ext_getD hl fun j hj => ?_
    have h1 : (litA8 xs)[j]? = (litA8 ys)[j]? := by rw [h]
    simpa [litA8, List.getElem?_map, List.getElem?_range (show j < 8 by omega)] using h1
  · intro h; rw [h]
theorem diffs_self (xs : List Int) : diffs xs xs = [] := by
  unfold diffs selN
  simp
end Go.Proofs.Ytfbglomliankmaa.Sc

namespace Go.Proofs.Ytfbglomliankmaa.Sc
open Go
def sb : Nat → Int × Int → Int × Int → List (Int × Int)
  | 0, _, _ => []
  | n + 1, a, b => if a.1 + b.1 > 30 ∨ a.2 + b.2 > 30 then [] else sb n a (a.1 + b.1, a.2 + b.2) ++ (a.1 + b.1, a.2 + b.2) :: sb n (a.1 + b.1, a.2 + b.2) b
def SB : List (Int × Int) := sb 60 (0, 1) (1, 0)
section
variable (kind base most : Int) (hs : List Int) (rs : List (Int × Int)) (limit : Int)
def fitP (s : Int × Int) : Bool := fitB most (cuts kind base s.1 s.2 hs)
@[reducible] def offP (s r : Int × Int) : Int := offS s.1 s.2 (riseS hs r) (riseS (cuts kind base s.1 s.2 hs) r)
def roadP (s : Int × Int) : Bool := rs.all fun r => decide (offP kind base hs s r ≤ limit)
def okG (s : Int × Int) : Bool := fitP kind base most hs s && roadP kind base hs rs limit s
def okL (s : Int × Int) : Bool := fitP kind base most hs s && decide ((flats hs (cuts kind base s.1 s.2 hs) rs).length = 0)
end
def lastG (p : Int × Int → Bool) (xs : List (Int × Int)) : Int × Int := ((xs.filter p).getLast?).getD (0, 0)
def frstG (p : Int × Int → Bool) (xs : List (Int × Int)) : Int × Int := ((xs.filter p).head?).getD (0, 0)
theorem lastG_t {p : Int × Int → Bool} {xs : List (Int × Int)} {x : Int × Int} (h : p x = true) : lastG p (xs ++ [x]) = x := by
  unfold lastG; rw [List.filter_append]; simp [h]
theorem lastG_f {p : Int × Int → Bool} {xs : List (Int × Int)} {x : Int × Int} (h : p x = false) : lastG p (xs ++ [x]) = lastG p xs := by
  unfold lastG; rw [List.filter_append]; simp [h]
theorem take_snoc {E : Type} {xs : List E} {k : Nat} {x : E} (h : xs[k]? = some x) : xs.take (k + 1) = xs.take k ++ [x] := by
  rw [List.take_add_one, h]; rfl
theorem sb_parts_all : SB.all (fun s => decide (1 ≤ s.1 ∧ s.1 ≤ 30 ∧ 1 ≤ s.2 ∧ s.2 ≤ 30)) = true := by decide +kernel
theorem sb_parts {k : Nat} {x : Int × Int} (h : SB[k]? = some x) : Parts x.1 x.2 := by
  have := List.all_eq_true.1 sb_parts_all x (List.mem_of_getElem? h)
  simpa using this
theorem roadP_all {kind base : Int} {hs : List Int} {rs : List (Int × Int)} {limit : Int} {s : Int × Int} (h : ∀ i, i < rs.length → offP kind base hs s (rs.getD i default) ≤ limit) : roadP kind base hs rs limit s = true := by
  unfold roadP
  rw [List.all_eq_true]
  intro r hr
  obtain ⟨i, hi, rfl⟩ := List.getElem_of_mem hr
  have := h i hi
  rw [List.getD_eq_getElem?_getD, List.getElem?_eq_getElem hi] at this
  simpa using this
theorem roadP_not {kind base : Int} {hs : List Int} {rs : List (Int × Int)} {limit : Int} {s : Int × Int} {i : Nat} (hi : i < rs.length) (h : offP kind base hs s (rs.getD i default) > limit) : roadP kind base hs rs limit s = false := by
  cases hb : roadP kind base hs rs limit s with
  | false => rfl
  | true =>
    unfold roadP at hb
    have := List.all_eq_true.1 hb _ (K.gt_mem hi)
    simp only [decide_eq_true_eq] at this
    omega
theorem okG_t {kind base most : Int} {hs : List Int} {rs : List (Int × Int)} {limit : Int} {s : Int × Int} (h1 : fitP kind base most hs s = true) (h2 : roadP kind base hs rs limit s = true) : okG kind base most hs rs limit s = true := by unfold okG; rw [h1, h2]; rfl
theorem okG_f {kind base most : Int} {hs : List Int} {rs : List (Int × Int)} {limit : Int} {s : Int × Int} (h2 : roadP kind base hs rs limit s = false) : okG kind base most hs rs limit s = false := by unfold okG; rw [h2, Bool.and_false]
theorem frst_none {p : Int × Int → Bool} {xs : List (Int × Int)} (h : ∀ s ∈ xs, p s = false) : frstG p xs = (0, 0) := by
  unfold frstG
  have : xs.filter p = [] := List.filter_eq_nil_iff.2 (fun s hs => by simp [h s hs])
  rw [this]; rfl
theorem frst_some {p : Int × Int → Bool} {xs : List (Int × Int)} {k : Nat} {x : Int × Int} (hx : xs[k]? = some x) (h : ∀ s ∈ xs.take k, p s = false) (hp : p x = true) : frstG p xs = x := by
  unfold frstG
  have e : xs = xs.take k ++ x :: xs.drop (k + 1) := by
    have hk := (List.getElem?_eq_some_iff.1 hx)
    obtain ⟨hk, rfl⟩ := hk
    rw [← List.drop_eq_getElem_cons hk, List.take_append_drop]
  have h1 : (xs.take k).filter p = [] := List.filter_eq_nil_iff.2 (fun s hs => by simp [h s hs])
  rw [e, List.filter_append, h1]
  simp [hp]
theorem part_ne {x : Int × Int} (h : Parts x.1 x.2) : x ≠ (0, 0) := fun e => by subst e; have := h.1; simp at this
theorem all_snoc {p : Int × Int → Bool} {k : Nat} {x : Int × Int} (hx : SB[k]? = some x) (h : ∀ s ∈ SB.take k, p s = false) (hp : p x = false) : ∀ s ∈ SB.take (k + 1), p s = false := by
  intro s hs
  rw [take_snoc hx] at hs
  rcases List.mem_append.1 hs with hs | hs
  · exact h s hs
  · simp at hs; subst hs; exact hp
section
variable {kind base most : Int} {hs : List Int} {rs : List (Int × Int)} {s : Int × Int}
theorem okL_ff (h : fitP kind base most hs s = false) : okL kind base most hs rs s = false := by unfold okL; rw [h]; rfl
theorem okL_fn (h : (flats hs (cuts kind base s.1 s.2 hs) rs).length ≠ 0) : okL kind base most hs rs s = false := by unfold okL; rw [decide_eq_false h, Bool.and_false]
theorem okL_t (h1 : fitP kind base most hs s = true) (h : (flats hs (cuts kind base s.1 s.2 hs) rs).length = 0) : okL kind base most hs rs s = true := by unfold okL; rw [h1, decide_eq_true h]; rfl
end
def markE (n : Int) (x : Int × Int × Int) : Int := if ¬ (0 ≤ x.1 ∧ x.1 ≤ n - 1) then 4 else if ¬ ((0 ≤ x.2.1 ∧ x.2.1 ≤ 100000) ∧ (0 ≤ x.2.2 ∧ x.2.2 ≤ 100000)) then 7 else if x.2.1 > x.2.2 then 2 else 0
theorem markE_0 {n : Int} {x : Int × Int × Int} (h : markE n x = 0) : (0 ≤ x.1 ∧ x.1 ≤ n - 1) ∧ ((0 ≤ x.2.1 ∧ x.2.1 ≤ 100000) ∧ (0 ≤ x.2.2 ∧ x.2.2 ≤ 100000)) ∧ x.2.1 ≤ x.2.2 := by
  unfold markE at h
  split at h
  · omega
  split at h
  · omega
  split at h
  · omega
  · omega
@[reducible] def missP (cs : List Int) (x : Int × Int × Int) : Bool := decide (¬ (x.2.1 ≤ cs.getD x.1.toNat default ∧ cs.getD x.1.toNat default ≤ x.2.2))
def okS (kind base most : Int) (hs : List Int) (ms : List (Int × Int × Int)) (s : Int × Int) : Bool := fitP kind base most hs s && !(ms.any (missP (cuts kind base s.1 s.2 hs)))
theorem sb_len : SB.length ≤ 1000 := by decide +kernel
theorem filt_t {p : Int × Int → Bool} {k : Nat} {x : Int × Int} (hx : SB[k]? = some x) (h : p x = true) : (SB.take (k + 1)).filter p = (SB.take k).filter p ++ [x] := by rw [take_snoc hx, List.filter_append]; simp [h]
theorem filt_f {p : Int × Int → Bool} {k : Nat} {x : Int × Int} (hx : SB[k]? = some x) (h : p x = false) : (SB.take (k + 1)).filter p = (SB.take k).filter p := by rw [take_snoc hx, List.filter_append]; simp [h]
theorem filt_len {p : Int × Int → Bool} {k : Nat} : ((SB.take k).filter p).length ≤ 1000 := Nat.le_trans (List.length_filter_le _ _) (Nat.le_trans (by rw [List.length_take]; omega) sb_len)
def marksE (kind base most : Int) (hs : List Int) (rs : List (Int × Int)) (ms : List (Int × Int × Int)) : Int :=
  if (chk kind base most hs rs).2.2 ≠ 0 then (chk kind base most hs rs).2.2 else if ms.length > 8 then 3 else (K.fst (markE hs.length) ms).2
def scalesR (kind base most : Int) (hs : List Int) (rs : List (Int × Int)) (ms : List (Int × Int × Int)) : List (Int × Int) := if marksE kind base most hs rs ms = 0 then SB.filter (okS kind base most hs ms) else []
theorem ptr8 {w0 : World} {b : Nat} {cs : List Int} {z : Int} (h : K.PtrL w0 [] ⟨b, 0, none⟩ (a8 cs)) (h0 : 0 ≤ z) (h8 : z < 8) : K.PtrL w0 [] ⟨b, 0 + z.toNat * 1, none⟩ (.int .i64 (cs.getD z.toNat default) :: (a8 cs).drop (z.toNat + 1)) := by
  have h1 := K.PtrL.fld h (k := z.toNat)
  rw [K.add_lit] at h1
  have e : (a8 cs).drop z.toNat = .int .i64 (cs.getD z.toNat default) :: (a8 cs).drop (z.toNat + 1) := by
    rw [List.drop_eq_getElem_cons (by rw [a8_len]; omega)]
    congr 1
    simp [a8]
  rw [e] at h1
  simpa using h1
end Go.Proofs.Ytfbglomliankmaa.Sc

namespace Go.Proofs.Ytfbglomliankmaa.Sc
open Go
@[reducible] def ltS (a b : Int × Int) : Prop := a.1 * b.2 < b.1 * a.2
theorem ltS_trans {a b c : Int × Int} (ha : 0 < a.2) (hb : 0 < b.2) (hc : 0 < c.2) (h1 : ltS a b) (h2 : ltS b c) : ltS a c := by
  unfold ltS at *
  have e1 : a.1 * b.2 * c.2 < b.1 * a.2 * c.2 := Int.mul_lt_mul_of_pos_right h1 hc
  have e2 : b.1 * c.2 * a.2 < c.1 * b.2 * a.2 := Int.mul_lt_mul_of_pos_right h2 ha
  have e3 : b.1 * a.2 * c.2 = b.1 * c.2 * a.2 := by rw [Int.mul_assoc, Int.mul_comm a.2, ← Int.mul_assoc]
  have e4 : a.1 * b.2 * c.2 = a.1 * c.2 * b.2 := by rw [Int.mul_assoc, Int.mul_comm b.2, ← Int.mul_assoc]
  have e5 : c.1 * b.2 * a.2 = c.1 * a.2 * b.2 := by rw [Int.mul_assoc, Int.mul_comm b.2, ← Int.mul_assoc]
  exact Int.lt_of_mul_lt_mul_right (a := b.2) (by omega) (by omega)
def chainB : List (Int × Int) → Bool
  | [] => true
  | a :: l => decide (0 < a.2) && (match l with | [] => true | b :: _ => decide (ltS a b)) && chainB l
theorem chain_pos : ∀ {l : List (Int × Int)}, chainB l = true → ∀ x ∈ l, 0 < x.2
  | [], _, x, hx => by cases hx
  | a :: l, h, x, hx => by
    simp only [chainB, Bool.and_eq_true, decide_eq_true_eq] at h
    rcases List.mem_cons.1 hx with rfl | hx
    · exact h.1.1
    · exact chain_pos h.2 x hx
theorem chain_pw : ∀ {l : List (Int × Int)}, chainB l = true → l.Pairwise ltS
  | [], _ => .nil
  | [a], _ => by simp
  | a :: b :: l, h => by
    have hp := chain_pos h
    have h2 : chainB (b :: l) = true := by simp only [chainB, Bool.and_eq_true] at h ⊢; exact h.2
    have hab : ltS a b := by simp only [chainB, Bool.and_eq_true, decide_eq_true_eq] at h; exact h.1.2
    have ih := chain_pw h2
    refine .cons (fun x hx => ?_) ih
    rcases List.mem_cons.1 hx with rfl | hx
    · exact hab
    · exact ltS_trans (hp _ (by simp)) (hp _ (by simp)) (hp _ (by simp [hx])) hab (List.rel_of_pairwise_cons ih hx)
theorem sb_pw : SB.Pairwise ltS := chain_pw (by decide +kernel)
theorem ediv_mono {x b y d : Int} (hb : 0 < b) (hd : 0 < d) (h : x * d ≤ y * b) : x / b ≤ y / d := by
  refine Int.le_ediv_of_mul_le hd ?_
  have h1 : x / b * b ≤ x := Int.ediv_mul_le _ (by omega)
  have h2 : x / b * b * d ≤ x * d := Int.mul_le_mul_of_nonneg_right h1 (by omega)
  have e : x / b * b * d = x / b * d * b := by rw [Int.mul_assoc, Int.mul_comm b, ← Int.mul_assoc]
  exact Int.le_of_mul_le_mul_right (by omega) hb
theorem ceil_mono {x b y d : Int} (hb : 0 < b) (hd : 0 < d) (h : x * d ≤ y * b) : (x + b - 1) / b ≤ (y + d - 1) / d := by
  generalize hq : (y + d - 1) / d = q
  have h1 : y ≤ q * d := by
    have := Int.lt_mul_ediv_self_add (x := y + d - 1) hd
    rw [hq, Int.mul_comm] at this
    omega
  have h2 : y * b ≤ q * d * b := Int.mul_le_mul_of_nonneg_right h1 (by omega)
  have e : q * d * b = q * b * d := by rw [Int.mul_assoc, Int.mul_comm d, ← Int.mul_assoc]
  have h3 : x ≤ q * b := Int.le_of_mul_le_mul_right (a := d) (by omega) hd
  have h4 : (x + b - 1) / b < q + 1 := Int.ediv_lt_of_lt_mul hb (by rw [Int.add_mul]; omega)
  omega
theorem cut_mono {kind h h' a b c d : Int} (hk : 1 ≤ kind ∧ kind ≤ 3) (h0 : 0 ≤ h) (hh : h ≤ h') (ha : 0 ≤ a) (hb : 1 ≤ b) (hd : 1 ≤ d) (hs : a * d ≤ c * b) : cutS kind h a b ≤ cutS kind h' c d := by
  rw [← rnd_cut hk hb, ← rnd_cut hk hd]
  have h1 : h * (a * d) ≤ h' * (c * b) := Int.mul_le_mul hh hs (Int.mul_nonneg ha (by omega)) (by omega)
  have h2 : h * a * d ≤ h' * c * b := by rw [Int.mul_assoc, Int.mul_assoc]; exact h1
  unfold rndS
  split
  · exact ediv_mono (by omega) (by omega) h2
  split
  · refine ediv_mono (by omega) (by omega) ?_
    have e1 : (2 * (h * a) + b) * (2 * d) = 4 * (h * a * d) + 2 * (b * d) := by
      rw [Int.add_mul, Int.mul_left_comm b 2 d, show (2 * (h * a)) * (2 * d) = 4 * (h * a * d) by rw [Int.mul_assoc 2, Int.mul_left_comm (h * a) 2 d]; omega]
    have e2 : (2 * (h' * c) + d) * (2 * b) = 4 * (h' * c * b) + 2 * (b * d) := by
      rw [Int.add_mul, Int.mul_left_comm d 2 b, show (2 * (h' * c)) * (2 * b) = 4 * (h' * c * b) by rw [Int.mul_assoc 2, Int.mul_left_comm (h' * c) 2 b]; omega, Int.mul_comm d b]
    omega
  · exact ceil_mono (by omega) (by omega) h2
theorem fitB_mono {most : Int} {xs ys : List Int} (hl : xs.length = ys.length) (h : ∀ j, j < xs.length → xs.getD j default ≤ ys.getD j default) (hf : fitB most ys = true) : fitB most xs = true := by
  unfold fitB at *
  rw [List.all_eq_true] at *
  intro x hx
  obtain ⟨j, hj, rfl⟩ := List.getElem_of_mem hx
  have h1 := h j hj
  have h2 := hf _ (K.gt_mem (xs := ys) (k := j) (by omega))
  simp only [decide_eq_true_eq, List.getD_eq_getElem?_getD, List.getElem?_eq_getElem hj, Option.getD_some] at h1 h2 ⊢
  omega
section
variable {kind base most : Int} {hs : List Int} {rs : List (Int × Int)}
theorem cuts_mono (g : Good kind base most hs rs) {s t : Int × Int} (hs1 : Parts s.1 s.2) (ht : Parts t.1 t.2) (h : s.1 * t.2 ≤ t.1 * s.2) : ∀ j, j < (cuts kind base s.1 s.2 hs).length → (cuts kind base s.1 s.2 hs).getD j default ≤ (cuts kind base t.1 t.2 hs).getD j default := by
  intro j hj
  rw [cuts_len] at hj
  rw [cuts_at hj, cuts_at hj]
  have := g.at hj
  exact cut_mono g.k (by omega) (Int.le_refl _) (by omega) (by omega) (by omega) h
theorem fit_mono (g : Good kind base most hs rs) {s t : Int × Int} (hs1 : Parts s.1 s.2) (ht : Parts t.1 t.2) (h : s.1 * t.2 ≤ t.1 * s.2) (hf : fitP kind base most hs t = true) : fitP kind base most hs s = true :=
  fitB_mono (by rw [cuts_len, cuts_len]) (cuts_mono g hs1 ht h) hf
theorem lastG_cut {limit : Int} (g : Good kind base most hs rs) {k : Nat} {x : Int × Int} (hx : SB[k]? = some x) (hf : fitP kind base most hs x = false) :
    lastG (okG kind base most hs rs limit) (SB.take k) = lastG (okG kind base most hs rs limit) SB := by
  have hk : k < SB.length := (List.getElem?_eq_some_iff.1 hx).1
  have hxe : SB[k] = x := (List.getElem?_eq_some_iff.1 hx).2
  have hd : (SB.drop k).filter (okG kind base most hs rs limit) = [] := by
    rw [List.filter_eq_nil_iff]
    intro y hy hok
    have hfy : fitP kind base most hs y = true := by unfold okG at hok; simp only [Bool.and_eq_true] at hok; exact hok.1
    have hy' : y ∈ SB := List.mem_of_mem_drop hy
    obtain ⟨j, hj, hyj⟩ := List.getElem_of_mem hy'
    have hpy := sb_parts (k := j) (x := y) (by rw [List.getElem?_eq_getElem hj, hyj])
    rw [List.drop_eq_getElem_cons hk, hxe] at hy
    rcases List.mem_cons.1 hy with rfl | hy
    · rw [hf] at hfy; cases hfy
    · have hlt : ltS x y := by
        have h1 : (SB.drop k).Pairwise ltS := List.Pairwise.sublist (List.drop_sublist _ _) sb_pw
        rw [List.drop_eq_getElem_cons hk, hxe] at h1
        exact List.rel_of_pairwise_cons h1 hy
      rw [fit_mono g (sb_parts hx) hpy (Int.le_of_lt hlt) hfy] at hf
      cases hf
  have e : SB.filter (okG kind base most hs rs limit) = (SB.take k).filter (okG kind base most hs rs limit) := by
    conv => lhs; rw [← List.take_append_drop k SB]
    rw [List.filter_append, hd, List.append_nil]
  unfold lastG
  rw [e]
end
end Go.Proofs.Ytfbglomliankmaa.Sc

namespace Go.Proofs.Ytfbglomliankmaa.Sc
open Go
def evR (u : Nat) (j : Nat) : List (Int × Int) := ((List.range j).filter fun (d : Nat) => !cm ((u : Int) + 1) ((d : Int) + 1)).map fun (d : Nat) => ((u : Int) + 1, (d : Int) + 1)
def evU (k : Nat) : List (Int × Int) := (List.range k).flatMap fun u => evR u 30
def EV : List (Int × Int) := evU 30
section
variable {kind base most : Int} {hs : List Int} {rs : List (Int × Int)} {ms : List (Int × Int × Int)} {j : Nat}
end
def bestI (better : Int × Int → Int × Int → Bool) (ok : Int × Int → Bool) : Nat → Int
  | 0 => -1
  | i + 1 => if (bestI better ok i < 0 ∨ better (EV.getD (bestI better ok i).toNat default) (EV.getD i default) = true) ∧ ok (EV.getD i default) = true then i else bestI better ok i
section
variable {better : Int × Int → Int × Int → Bool} {ok : Int × Int → Bool} {i : Nat} {b : Int}
end
end Go.Proofs.Ytfbglomliankmaa.Sc

namespace Go.Proofs.Ytfbglomliankmaa.Sc
open Go
theorem div_step {u v n : Int} (hp : Parts u v) (hn : 2 ≤ n) (hu : u % n = 0) (hv : v % n = 0) (hall : ∀ m, n < m → m ≤ 30 → ¬ (u % m = 0 ∧ v % m = 0)) :
    Parts (u / n) (v / n) ∧ ∀ m, n - 1 < m → m ≤ 30 → ¬ (u / n % m = 0 ∧ v / n % m = 0) := by
  obtain ⟨a, rfl⟩ := Int.dvd_of_emod_eq_zero hu
  obtain ⟨b, rfl⟩ := Int.dvd_of_emod_eq_zero hv
  rw [Int.mul_ediv_cancel_left _ (by omega), Int.mul_ediv_cancel_left _ (by omega)]
  have ha : 1 ≤ a := by
    rcases Int.lt_or_le a 1 with h | h
    · have : n * a ≤ 0 := Int.mul_nonpos_of_nonneg_of_nonpos (by omega) (by omega)
      omega
    · exact h
  have hb : 1 ≤ b := by
    rcases Int.lt_or_le b 1 with h | h
    · have : n * b ≤ 0 := Int.mul_nonpos_of_nonneg_of_nonpos (by omega) (by omega)
      omega
    · exact h
  have ha2 : a ≤ n * a := by have := Int.mul_le_mul_of_nonneg_right (show 1 ≤ n by omega) (show 0 ≤ a by omega); omega
  have hb2 : b ≤ n * b := by have := Int.mul_le_mul_of_nonneg_right (show 1 ≤ n by omega) (show 0 ≤ b by omega); omega
  refine ⟨⟨ha, by omega, hb, by omega⟩, fun m h1 h2 ⟨h3, h4⟩ => ?_⟩
  obtain ⟨c, rfl⟩ := Int.dvd_of_emod_eq_zero h3
  obtain ⟨e, rfl⟩ := Int.dvd_of_emod_eq_zero h4
  have hc : 1 ≤ c := by
    rcases Int.lt_or_le c 1 with h | h
    · have : m * c ≤ 0 := Int.mul_nonpos_of_nonneg_of_nonpos (by omega) (by omega)
      omega
    · exact h
  have hnm : n < n * m := by
    have := Int.mul_lt_mul_of_pos_left (show 1 < m by omega) (show 0 < n by omega)
    omega
  have e1 : n * (m * c) = n * m * c := (Int.mul_assoc n m c).symm
  have e2 : n * (m * e) = n * m * e := (Int.mul_assoc n m e).symm
  have hle : n * m ≤ n * m * c := by
    have := Int.mul_le_mul_of_nonneg_left hc (show 0 ≤ n * m by omega)
    omega
  refine hall (n * m) hnm (by omega) ⟨by rw [e1]; exact Int.mul_emod_right _ _, by rw [e2]; exact Int.mul_emod_right _ _⟩
theorem scE_of {u v : Int} (hp : Parts u v) (hall : ∀ m, 1 < m → m ≤ 30 → ¬ (u % m = 0 ∧ v % m = 0)) : scE u v = 0 := by
  unfold scE
  rw [if_pos hp, cm_false (fun n h1 h2 => hall n (by omega) h2)]
  rfl
end Go.Proofs.Ytfbglomliankmaa.Sc
end
section
set_option linter.unusedSimpArgs false
set_option linter.unusedVariables false
namespace Go.Proofs.Ytfbglomliankmaa.Sc
open Go.RowKit Go
open Go.K (setd setn ev nth over cl eI eP eT setM setF)
attribute [local irreducible] K.blk K.row
theorem bs1 (a : Int) : K.Bs Try.prog 31 1 [(0, .int .i64 a)] 3 [.int .i64 a] := fun w => by kernel_rfl
theorem bs2 (a b : Int) : K.Bs Try.prog 31 2 [(0, .int .i64 a), (1, .int .i64 b)] 3 [.int .i64 a, .int .i64 b] := fun w => by kernel_rfl
theorem bl27 (a b : Int) : K.Bl Try.prog 36 [(0, .int .i64 a), (1, .int .i64 b)] (.agg #[.int .i64 a, .int .i64 b]) := fun w => by kernel_rfl
theorem bl51 (a b : Int) : K.Bl Try.prog 52 [(0, .int .i64 a), (1, .int .i64 b)] (.agg #[.int .i64 a, .int .i64 b]) := fun w => by kernel_rfl
theorem bl53 (p a b : Int) : K.Bl Try.prog 82 [(0, .int .i64 p), (1, .agg #[.int .i64 a, .int .i64 b])] (.agg #[.int .i64 p, .int .i64 a, .int .i64 b]) := fun w => by kernel_rfl

set_option maxRecDepth 100000 in
theorem c84 {n lo hi : Int} {p q : Addr} {w : World} (hp : w.cell? p = some (.int .i64 lo)) (hq : w.cell? q = some (.int .i64 hi)) :
    Calls Try.prog 79 [.int .i64 n, .pointer (some p), .pointer (some q)].toArray w (K.Gives (.bool (decide (n < lo) || decide (n > hi))) w) := by
  refine K.enter (args := [.int .i64 n, .pointer (some p), .pointer (some q)]) Try.func79 rfl (n := 10) rfl ?_
  simp only [List.replicate, List.cons_append, List.nil_append]
  refine K.seq ?_
  refine K.region_lit ?_
  refine K.seq_pure (K.assign) rfl ?_
  dsimp only [setd, setn, ev, nth]
  refine K.seq_nil ?_
  refine K.norm_then ?_
  refine K.seq ?_
  refine K.region_lit ?_
  refine K.seq_pure (K.move) rfl ?_
  dsimp only [setd, setn, ev, nth]
  refine K.seq_sil (K.load1 one_3 rfl ((K.PtrL.cell1 hp).any)) rfl ?_
  try dsimp only [setd, setn, ev, nth, over, cl, eI, eP, eT, List.map, List.append, List.drop, List.take]
  refine K.seq_pure (K.lss rfl rfl) rfl ?_
  dsimp only [setd, setn, ev, nth]
  refine K.seq_pure (K.move) rfl ?_
  dsimp only [setd, setn, ev, nth]
  refine K.split 8 rfl (fun hg8 => ?_) (fun hg8 => ?_)
  · try replace hg8 := of_decide_eq_true hg8
    refine K.seq_skip ?_ ?_
    · rfl
    try dsimp only [setd, setn, ev, nth, over, cl, eI, eP, eT, List.map, List.append, List.drop, List.take]
    refine K.seq_skip ?_ ?_
    · rfl
    try dsimp only [setd, setn, ev, nth, over, cl, eI, eP, eT, List.map, List.append, List.drop, List.take]
    refine K.seq_skip ?_ ?_
    · rfl
    try dsimp only [setd, setn, ev, nth, over, cl, eI, eP, eT, List.map, List.append, List.drop, List.take]
    refine K.seq_pure (K.pick_t rfl) rfl ?_
    dsimp only [setd, setn, ev, nth]
    refine K.seq_pure (K.assign) rfl ?_
    dsimp only [setd, setn, ev, nth]
    refine K.seq_nil ?_
    refine K.norm_then ?_
    refine K.ret ?_
    refine K.end_ret (fun w _ => K.res_tmp rfl w) ?_
    exact K.gives_b rfl (by simp [hg8])
  try replace hg8 := of_decide_eq_false hg8
  refine K.seq_pure (K.move) rfl ?_
  dsimp only [setd, setn, ev, nth]
  refine K.seq_sil (K.load1 one_3 rfl ((K.PtrL.cell1 hq).any)) rfl ?_
  try dsimp only [setd, setn, ev, nth, over, cl, eI, eP, eT, List.map, List.append, List.drop, List.take]
  refine K.seq_pure (K.gtr rfl rfl) rfl ?_
  dsimp only [setd, setn, ev, nth]
  refine K.seq_pure (K.pick_f rfl) rfl ?_
  dsimp only [setd, setn, ev, nth]
  refine K.seq_pure (K.assign) rfl ?_
  dsimp only [setd, setn, ev, nth]
  refine K.seq_nil ?_
  refine K.norm_then ?_
  refine K.ret ?_
  refine K.end_ret (fun w _ => K.res_tmp rfl w) ?_
  exact K.gives_b rfl (by simp [hg8])

set_option maxRecDepth 100000 in
theorem c97 {A : Option Addr} {c f : Nat} {cap : List Value} {xs : List Int} {p : Int → Bool} {w : World} (hR : K.Rd w A 1 K.eI xs) (hn : xs.length ≤ 4611686018427387904) (hcal : K.callable Try.prog f = true) (hf : ∀ x ∈ xs, ∀ w1, Below w.heap.size w w1 → Calls Try.prog f ([Value.int .i64 x] ++ cap).toArray w1 (K.Gives (.bool (p x)) w1)) :
    Calls Try.prog 94 [.slice A xs.length c, .func (.func f) #[] cap.toArray].toArray w (K.Gives (.int .i64 (K.idx p xs)) w) := by
  refine K.enter (args := [.slice A xs.length c, .func (.func f) #[] cap.toArray]) Try.func94 rfl (n := 17) rfl ?_
  simp only [List.replicate, List.cons_append, List.nil_append]
  refine K.seq ?_
  refine K.region_lit ?_
  refine K.seq_pure (K.assign) rfl ?_
  dsimp only [setd, setn, ev, nth]
  refine K.seq_nil ?_
  refine K.norm_then ?_
  refine K.seq ?_
  refine K.seq ?_
  refine K.region_lit ?_
  refine K.seq_pure (K.move) rfl ?_
  dsimp only [setd, setn, ev, nth]
  refine K.seq_pure (K.len_sl sl_31 rfl) rfl ?_
  dsimp only [setd, setn, ev, nth]
  refine K.seq_pure (K.move) rfl ?_
  dsimp only [setd, setn, ev, nth]
  refine K.seq_nil ?_
  refine K.norm_then ?_
  refine K.block ?_
  refine K.loopW [8] [4, 5, 9, 10, 11, 12, 13, 14, 15, 16, 17, 18] (fun vi L => ∃ k : Nat, vi = [.int .i64 (k : Int)] ∧ L = [] ∧ k ≤ xs.length ∧ ∀ j, j < k → p (xs.getD j default) = false) (fun vi => xs.length - (intOf (K.nth vi 0)).toNat) ?_ ?_
  · exact ⟨0, rfl, rfl, Nat.zero_le _, fun j hj => absurd hj (Nat.not_lt_zero j)⟩
  intro vi vr L hJ
  obtain ⟨k, rfl, rfl, hkn, hall⟩ := hJ
  try dsimp only [setd, setn, ev, nth, over, cl, eI, eP, eT, setM, setF, List.map, List.append, List.drop, List.take]
  refine K.seq ?_
  refine K.region_lit ?_
  refine K.seq_pure (K.lss rfl rfl) rfl ?_
  dsimp only [setd, setn, ev, nth]
  refine K.seq_nil ?_
  refine K.norm_then ?_
  refine K.seq ?_
  refine K.cond rfl (fun ht9 => ?_) (fun ht9 => ?_)
  · try replace ht9 := of_decide_eq_true ht9
    have hk : k < xs.length := by omega
    refine K.skip ?_
    refine K.norm_then ?_
    refine K.seq ?_
    refine K.block ?_
    refine K.seq ?_
    refine K.region_lit ?_
    refine K.seq_pure (K.move) rfl ?_
    dsimp only [setd, setn, ev, nth]
    refine K.seq_pure (K.assign) rfl ?_
    dsimp only [setd, setn, ev, nth]
    refine K.seq_nil ?_
    refine K.norm_then ?_
    refine K.seq ?_
    refine K.region_lit ?_
    refine K.seq_pure (K.move) rfl ?_
    dsimp only [setd, setn, ev, nth]
    refine K.seq_pure (K.move) rfl ?_
    dsimp only [setd, setn, ev, nth]
    refine K.seq_pure (K.move) rfl ?_
    dsimp only [setd, setn, ev, nth]
    refine K.seq_ix (M := []) _ hR.sl sl_31 rfl rfl rfl (by omega) rfl ?_
    intro p14 hp14
    try dsimp only [setd, setn, ev, nth, over, cl, eI, eP, eT, List.map, List.append, List.drop, List.take]
    refine K.seq_sil (K.load1 one_3 rfl (hp14.any)) rfl ?_
    try dsimp only [setd, setn, ev, nth, over, cl, eI, eP, eT, List.map, List.append, List.drop, List.take]
    refine K.seq_call (K.callv_g (first := []) (cap := cap) rfl hcal (fun F w1 _ hw => hf _ (K.gt_mem hk) w1 hw.1)) rfl ?_
    try dsimp only [setd, setn, ev, nth, over, cl, eI, eP, eT, List.map, List.append, List.drop, List.take]
    refine K.seq_nil ?_
    refine K.norm_then ?_
    refine K.cond rfl (fun ht16 => ?_) (fun ht16 => ?_)
    · try replace ht16 := of_decide_eq_true ht16
      refine K.seq ?_
      refine K.region_lit ?_
      refine K.seq_pure (K.move) rfl ?_
      dsimp only [setd, setn, ev, nth]
      refine K.seq_pure (K.assign) rfl ?_
      dsimp only [setd, setn, ev, nth]
      refine K.seq_nil ?_
      refine K.norm_then ?_
      refine K.ret ?_
      refine K.ret_block ?_
      refine K.ret_then ?_
      refine K.ret_then ?_
      refine K.ret_block ?_
      refine K.ret_then ?_
      refine K.end_ret (fun w _ => K.res_tmp rfl w) ?_
      exact K.gives_i rfl (K.idx_found hk hall ht16).symm
    try replace ht16 := of_decide_eq_false ht16
    refine K.skip ?_
    refine K.norm_block ?_
    refine K.norm_then ?_
    refine K.region_lit ?_
    refine K.seq_pure (K.add_i64 rfl rfl (by omega)) rfl ?_
    dsimp only [setd, setn, ev, nth]
    refine K.seq_pure (K.move) rfl ?_
    dsimp only [setd, setn, ev, nth]
    refine K.seq_nil ?_
    exact K.round_endW [.int .i64 ((k : Int) + 1)] ⟨k + 1, rfl, rfl, by omega, K.lt_succ_case hall ht16⟩ (by simp [K.nth, intOf]; omega) (List.Sublist.refl _) (by kernel_rfl)
  try replace ht9 := of_decide_eq_false ht9
  refine K.exit ?_
  refine K.exit_then ?_
  refine K.exit_then ?_
  refine K.exit_here ?_
  refine K.norm_then ?_
  refine K.seq ?_
  refine K.region_lit ?_
  refine K.seq_pure (K.assign) rfl ?_
  dsimp only [setd, setn, ev, nth]
  refine K.seq_nil ?_
  refine K.norm_then ?_
  refine K.ret ?_
  refine K.end_ret (fun w _ => K.res_tmp rfl w) ?_
  exact K.gives_i rfl (K.idx_none (fun j hj => hall j (by omega))).symm

set_option maxRecDepth 100000 in
theorem c83 {A : Option Addr} {c f : Nat} {cap : List Value} {xs : List Int} {p : Int → Bool} {w : World} (hR : K.Rd w A 1 K.eI xs) (hn : xs.length ≤ 4611686018427387904) (hcal : K.callable Try.prog f = true) (hf : ∀ x ∈ xs, ∀ w1, Below w.heap.size w w1 → Calls Try.prog f ([Value.int .i64 x] ++ cap).toArray w1 (K.Gives (.bool (p x)) w1)) :
    Calls Try.prog 73 [.slice A xs.length c, .func (.func f) #[] cap.toArray].toArray w (K.Gives (.bool (xs.any p)) w) := by
  refine K.enter (args := [.slice A xs.length c, .func (.func f) #[] cap.toArray]) Try.func73 rfl (n := 7) rfl ?_
  simp only [List.replicate, List.cons_append, List.nil_append]
  refine K.seq ?_
  refine K.region_lit ?_
  refine K.seq_pure (K.assign) rfl ?_
  dsimp only [setd, setn, ev, nth]
  refine K.seq_nil ?_
  refine K.norm_then ?_
  refine K.seq ?_
  refine K.region_lit ?_
  refine K.seq_pure (K.move) rfl ?_
  dsimp only [setd, setn, ev, nth]
  refine K.seq_pure (K.move) rfl ?_
  dsimp only [setd, setn, ev, nth]
  refine K.seq_call (K.call_g cal_94 (fun F w hF hw => c97 (p := p) (cap := cap) (hR.pass hw) hn hcal (fun x hx w1 hb => hf x hx w1 (hw.1.trans (hb.mono hw.1.size))))) rfl ?_
  try dsimp only [setd, setn, ev, nth, over, cl, eI, eP, eT, List.map, List.append, List.drop, List.take]
  refine K.seq_pure (K.geq rfl rfl) rfl ?_
  dsimp only [setd, setn, ev, nth]
  refine K.seq_pure (K.assign) rfl ?_
  dsimp only [setd, setn, ev, nth]
  refine K.seq_nil ?_
  refine K.norm_then ?_
  refine K.ret ?_
  refine K.end_ret (fun w _ => K.res_tmp rfl w) ?_
  exact K.gives_b rfl K.idx_ge

set_option maxRecDepth 100000 in
theorem c52 {lo hi : Int} {A : Option Addr} {c : Nat} {xs : List Int} {w : World} (hR : K.Rd w A 1 K.eI xs) (hn : xs.length ≤ 4611686018427387904) :
    Calls Try.prog 59 [.int .i64 lo, .int .i64 hi, .slice A xs.length c].toArray w (K.Gives (.bool (outB lo hi xs)) w) := by
  refine K.enter (args := [.int .i64 lo, .int .i64 hi, .slice A xs.length c]) Try.func59 rfl (n := 7) rfl ?_
  simp only [List.replicate, List.cons_append, List.nil_append]
  refine K.seq ?_
  refine K.region_lit ?_
  refine K.seq_new (K.box) rfl ?_
  intro b3
  try dsimp only [setd, setn, ev, nth, over, cl, eI, eP, eT, List.map, List.append, List.drop, List.take]
  refine K.seq_new (K.box) rfl ?_
  intro b4
  try dsimp only [setd, setn, ev, nth, over, cl, eI, eP, eT, List.map, List.append, List.drop, List.take]
  refine K.seq_pure (K.assign) rfl ?_
  dsimp only [setd, setn, ev, nth]
  refine K.seq_nil ?_
  refine K.norm_then ?_
  refine K.seq ?_
  refine K.region_lit ?_
  refine K.seq_pure (K.move) rfl ?_
  dsimp only [setd, setn, ev, nth]
  refine K.seq_pure (K.mkFunc) rfl ?_
  try dsimp only [setd, setn, ev, nth, over, cl, eI, eP, eT, List.map, List.append, List.drop, List.take]
  refine K.seq_call (K.call_g cal_73 (fun F w hF hw => c83 (cap := [.pointer (some ⟨b3, 0, none⟩), .pointer (some ⟨b4, 0, none⟩)]) (hR.pass hw) hn cal_79 (fun x _ w1 hb => c84 (K.cell_later hw (hF _ (K.m1)) rfl hb) (K.cell_later hw (hF _ (K.m0)) rfl hb)))) rfl ?_
  try dsimp only [setd, setn, ev, nth, over, cl, eI, eP, eT, List.map, List.append, List.drop, List.take]
  refine K.seq_pure (K.assign) rfl ?_
  dsimp only [setd, setn, ev, nth]
  refine K.seq_nil ?_
  refine K.norm_then ?_
  refine K.ret ?_
  refine K.end_ret (fun w _ => K.res_tmp rfl w) ?_
  exact K.gives rfl

set_option maxRecDepth 100000 in
theorem c99 {n b : Int} (h0 : 0 ≤ n) (h9 : n ≤ 1000000000) (h1 : 1 ≤ b) (h2 : b ≤ 1000) (w : World) :
    Calls Try.prog 91 [.int .i64 n, .int .i64 b].toArray w (K.Gives (.int .i64 (rndS 1 n b)) w) := by
  refine K.enter (args := [.int .i64 n, .int .i64 b]) Try.func91 rfl (n := 6) rfl ?_
  simp only [List.replicate, List.cons_append, List.nil_append]
  refine K.seq ?_
  refine K.region_lit ?_
  refine K.seq_pure (K.assign) rfl ?_
  dsimp only [setd, setn, ev, nth]
  refine K.seq_nil ?_
  refine K.norm_then ?_
  refine K.seq ?_
  refine K.region_lit ?_
  refine K.seq_pure (K.move) rfl ?_
  dsimp only [setd, setn, ev, nth]
  refine K.seq_pure (K.move) rfl ?_
  dsimp only [setd, setn, ev, nth]
  refine K.seq_pure (K.quo_i64 rfl rfl (by omega) (by omega) (by omega)) rfl ?_
  dsimp only [setd, setn, ev, nth]
  refine K.seq_pure (K.assign) rfl ?_
  dsimp only [setd, setn, ev, nth]
  refine K.seq_nil ?_
  refine K.norm_then ?_
  refine K.ret ?_
  refine K.end_ret (fun w _ => K.res_tmp rfl w) ?_
  exact K.gives_i rfl rfl

set_option maxRecDepth 100000 in
theorem c100 {n b : Int} (h0 : 0 ≤ n) (h9 : n ≤ 1000000000) (h1 : 1 ≤ b) (h2 : b ≤ 1000) (w : World) :
    Calls Try.prog 92 [.int .i64 n, .int .i64 b].toArray w (K.Gives (.int .i64 (rndS 2 n b)) w) := by
  refine K.enter (args := [.int .i64 n, .int .i64 b]) Try.func92 rfl (n := 10) rfl ?_
  simp only [List.replicate, List.cons_append, List.nil_append]
  refine K.seq ?_
  refine K.region_lit ?_
  refine K.seq_pure (K.assign) rfl ?_
  dsimp only [setd, setn, ev, nth]
  refine K.seq_nil ?_
  refine K.norm_then ?_
  refine K.seq ?_
  refine K.region_lit ?_
  refine K.seq_pure (K.move) rfl ?_
  dsimp only [setd, setn, ev, nth]
  refine K.seq_pure (K.mul_i64 rfl rfl (by omega)) rfl ?_
  dsimp only [setd, setn, ev, nth]
  refine K.seq_pure (K.move) rfl ?_
  dsimp only [setd, setn, ev, nth]
  refine K.seq_pure (K.add_i64 rfl rfl (by omega)) rfl ?_
  dsimp only [setd, setn, ev, nth]
  refine K.seq_pure (K.move) rfl ?_
  dsimp only [setd, setn, ev, nth]
  refine K.seq_pure (K.mul_i64 rfl rfl (by omega)) rfl ?_
  dsimp only [setd, setn, ev, nth]
  refine K.seq_pure (K.quo_i64 rfl rfl (by omega) (by omega) (by omega)) rfl ?_
  dsimp only [setd, setn, ev, nth]
  refine K.seq_pure (K.assign) rfl ?_
  dsimp only [setd, setn, ev, nth]
  refine K.seq_nil ?_
  refine K.norm_then ?_
  refine K.ret ?_
  refine K.end_ret (fun w _ => K.res_tmp rfl w) ?_
  exact K.gives_i rfl rfl

set_option maxRecDepth 100000 in
theorem c101 {n b : Int} (h0 : 0 ≤ n) (h9 : n ≤ 1000000000) (h1 : 1 ≤ b) (h2 : b ≤ 1000) (w : World) :
    Calls Try.prog 93 [.int .i64 n, .int .i64 b].toArray w (K.Gives (.int .i64 (rndS 3 n b)) w) := by
  refine K.enter (args := [.int .i64 n, .int .i64 b]) Try.func93 rfl (n := 9) rfl ?_
  simp only [List.replicate, List.cons_append, List.nil_append]
  refine K.seq ?_
  refine K.region_lit ?_
  refine K.seq_pure (K.assign) rfl ?_
  dsimp only [setd, setn, ev, nth]
  refine K.seq_nil ?_
  refine K.norm_then ?_
  refine K.seq ?_
  refine K.region_lit ?_
  refine K.seq_pure (K.move) rfl ?_
  dsimp only [setd, setn, ev, nth]
  refine K.seq_pure (K.move) rfl ?_
  dsimp only [setd, setn, ev, nth]
  refine K.seq_pure (K.add_i64 rfl rfl (by omega)) rfl ?_
  dsimp only [setd, setn, ev, nth]
  refine K.seq_pure (K.sub_i64 rfl rfl (by omega)) rfl ?_
  dsimp only [setd, setn, ev, nth]
  refine K.seq_pure (K.move) rfl ?_
  dsimp only [setd, setn, ev, nth]
  refine K.seq_pure (K.quo_i64 rfl rfl (by omega) (by omega) (by omega)) rfl ?_
  dsimp only [setd, setn, ev, nth]
  refine K.seq_pure (K.assign) rfl ?_
  dsimp only [setd, setn, ev, nth]
  refine K.seq_nil ?_
  refine K.norm_then ?_
  refine K.ret ?_
  refine K.end_ret (fun w _ => K.res_tmp rfl w) ?_
  exact K.gives_i rfl rfl

set_option maxRecDepth 100000 in
theorem c82 {kind h a b : Int} (h0 : 0 ≤ h) (h9 : h ≤ 9000) (h1 : 1 ≤ a) (h2 : a ≤ 30) (h3 : 1 ≤ b) (h4 : b ≤ 30) (w : World) :
    Calls Try.prog 11 [.int .i64 kind, .int .i64 h, .agg #[.int .i64 a, .int .i64 b]].toArray w (K.Gives (.int .i64 (cutS kind h a b)) w) := by
  have m1 := Int.mul_nonneg h0 (show (0:Int) ≤ a by omega)
  have m2 : h * a ≤ 9000 * 30 := Int.mul_le_mul h9 h2 (by omega) (by omega)
  have m3 : 0 ≤ h * a / b := Int.ediv_nonneg m1 (by omega)
  have m4 : h * a / b ≤ h * a := Int.ediv_le_self b m1
  have m5 := Int.emod_nonneg (h * a) (show b ≠ 0 by omega)
  have m6 := Int.emod_lt_of_pos (h * a) (show 0 < b by omega)
  refine K.enter (args := [.int .i64 kind, .int .i64 h, .agg #[.int .i64 a, .int .i64 b]]) Try.func11 rfl (n := 39) rfl ?_
  simp only [List.replicate, List.cons_append, List.nil_append]
  refine K.seq ?_
  refine K.region_lit ?_
  refine K.seq_new (K.box) rfl ?_
  intro b5
  try dsimp only [setd, setn, ev, nth, over, cl, eI, eP, eT, List.map, List.append, List.drop, List.take]
  refine K.seq_pure (K.assign) rfl ?_
  dsimp only [setd, setn, ev, nth]
  refine K.seq_nil ?_
  refine K.norm_then ?_
  refine K.seq ?_
  refine K.region_lit ?_
  refine K.seq_pure (K.move) rfl ?_
  dsimp only [setd, setn, ev, nth]
  refine K.seq_pure (K.fieldAddr_lit fo_36_0 rfl) rfl ?_
  dsimp only [setd, setn, ev, nth]
  refine K.seq_sil (K.load1_own one_3 rfl (K.m0) rfl) rfl ?_
  try dsimp only [setd, setn, ev, nth, over, cl, eI, eP, eT, List.map, List.append, List.drop, List.take]
  refine K.seq_pure (K.mul_i64 rfl rfl (by omega)) rfl ?_
  dsimp only [setd, setn, ev, nth]
  refine K.seq_pure (K.assign) rfl ?_
  dsimp only [setd, setn, ev, nth]
  refine K.seq_nil ?_
  refine K.norm_then ?_
  refine K.seq ?_
  refine K.draw_L [] Try_mixed ?_
  refine K.d_pure 0 rfl (K.move) (by kernel_rfl) rfl ?_
  dsimp only [setd, setn, ev, nth]
  refine K.d_pure 1 rfl (K.fieldAddr_lit fo_36_1 rfl) (by kernel_rfl) rfl ?_
  dsimp only [setd, setn, ev, nth]
  refine K.d_mem 2 rfl (K.load1_own one_3 rfl (K.m0) rfl) (fun _ h => h) (by kernel_rfl) (by kernel_rfl) rfl ?_
  try dsimp only [setd, setn, ev, nth, over, cl, eI, eP, eT, List.map, List.append, List.drop, List.take]
  refine K.d_pure 3 rfl (K.quo_i64 rfl rfl (by omega) (by omega) (by omega)) (by kernel_rfl) rfl ?_
  dsimp only [setd, setn, ev, nth]
  refine K.d_pure 4 rfl (K.move) (by kernel_rfl) rfl ?_
  dsimp only [setd, setn, ev, nth]
  refine K.d_pure 5 rfl (K.fieldAddr_lit fo_36_1 rfl) (by kernel_rfl) rfl ?_
  dsimp only [setd, setn, ev, nth]
  refine K.d_mem 6 rfl (K.load1_own one_3 rfl (K.m0) rfl) (fun _ h => h) (by kernel_rfl) (by kernel_rfl) rfl ?_
  try dsimp only [setd, setn, ev, nth, over, cl, eI, eP, eT, List.map, List.append, List.drop, List.take]
  refine K.d_pure 7 rfl (K.rem_i64 rfl rfl (by omega) (by omega)) (by kernel_rfl) rfl ?_
  dsimp only [setd, setn, ev, nth]
  refine K.d_pure 8 rfl (K.assign) (by kernel_rfl) rfl ?_
  dsimp only [setd, setn, ev, nth]
  refine K.d_pure 9 rfl (K.assign) (by kernel_rfl) rfl ?_
  dsimp only [setd, setn, ev, nth]
  refine K.d_done (by kernel_rfl) ?_
  refine K.norm_then ?_
  refine K.seq ?_
  refine K.seq ?_
  refine K.region_lit ?_
  refine K.seq_pure (K.move) rfl ?_
  dsimp only [setd, setn, ev, nth]
  refine K.seq_pure (K.eql rfl rfl) rfl ?_
  dsimp only [setd, setn, ev, nth]
  refine K.seq_pure (K.move) rfl ?_
  dsimp only [setd, setn, ev, nth]
  refine K.split 24 rfl (fun hg24 => ?_) (fun hg24 => ?_)
  · try replace hg24 := of_decide_eq_true hg24
    refine K.seq_pure (K.move) rfl ?_
    dsimp only [setd, setn, ev, nth]
    refine K.seq_pure (K.gtr rfl rfl) rfl ?_
    dsimp only [setd, setn, ev, nth]
    refine K.seq_pure (K.pick_t rfl) rfl ?_
    dsimp only [setd, setn, ev, nth]
    refine K.seq_pure (K.move) rfl ?_
    dsimp only [setd, setn, ev, nth]
    refine K.split 28 rfl (fun hg28 => ?_) (fun hg28 => ?_)
    · try replace hg28 := of_decide_eq_true hg28
      refine K.seq_skip ?_ ?_
      · rfl
      try dsimp only [setd, setn, ev, nth, over, cl, eI, eP, eT, List.map, List.append, List.drop, List.take]
      refine K.seq_skip ?_ ?_
      · rfl
      try dsimp only [setd, setn, ev, nth, over, cl, eI, eP, eT, List.map, List.append, List.drop, List.take]
      refine K.seq_skip ?_ ?_
      · rfl
      try dsimp only [setd, setn, ev, nth, over, cl, eI, eP, eT, List.map, List.append, List.drop, List.take]
      refine K.seq_skip ?_ ?_
      · rfl
      try dsimp only [setd, setn, ev, nth, over, cl, eI, eP, eT, List.map, List.append, List.drop, List.take]
      refine K.seq_skip ?_ ?_
      · rfl
      try dsimp only [setd, setn, ev, nth, over, cl, eI, eP, eT, List.map, List.append, List.drop, List.take]
      refine K.seq_skip ?_ ?_
      · rfl
      try dsimp only [setd, setn, ev, nth, over, cl, eI, eP, eT, List.map, List.append, List.drop, List.take]
      refine K.seq_skip ?_ ?_
      · rfl
      try dsimp only [setd, setn, ev, nth, over, cl, eI, eP, eT, List.map, List.append, List.drop, List.take]
      refine K.seq_skip ?_ ?_
      · rfl
      try dsimp only [setd, setn, ev, nth, over, cl, eI, eP, eT, List.map, List.append, List.drop, List.take]
      refine K.seq_skip ?_ ?_
      · rfl
      try dsimp only [setd, setn, ev, nth, over, cl, eI, eP, eT, List.map, List.append, List.drop, List.take]
      refine K.seq_pure (K.pick_t rfl) rfl ?_
      dsimp only [setd, setn, ev, nth]
      refine K.seq_nil ?_
      refine K.norm_then ?_
      refine K.cond_true rfl ?_
      refine K.region_lit ?_
      refine K.seq_pure (K.move) rfl ?_
      dsimp only [setd, setn, ev, nth]
      refine K.seq_pure (K.add_i64 rfl rfl (by omega)) rfl ?_
      dsimp only [setd, setn, ev, nth]
      refine K.seq_pure (K.assign) rfl ?_
      dsimp only [setd, setn, ev, nth]
      refine K.seq_nil ?_
      refine K.norm_then ?_
      refine K.seq ?_
      refine K.region_lit ?_
      refine K.seq_pure (K.move) rfl ?_
      dsimp only [setd, setn, ev, nth]
      refine K.seq_pure (K.assign) rfl ?_
      dsimp only [setd, setn, ev, nth]
      refine K.seq_nil ?_
      refine K.norm_then ?_
      refine K.ret ?_
      refine K.end_ret (fun w _ => K.res_tmp rfl w) ?_
      exact K.gives_i rfl (by unfold cutS; split <;> omega)
    try replace hg28 := of_decide_eq_false hg28
    refine K.seq_pure (K.move) rfl ?_
    dsimp only [setd, setn, ev, nth]
    refine K.seq_pure (K.eql rfl rfl) rfl ?_
    dsimp only [setd, setn, ev, nth]
    refine K.seq_pure (K.move) rfl ?_
    dsimp only [setd, setn, ev, nth]
    refine K.split 31 rfl (fun hg31 => ?_) (fun hg31 => ?_)
    · try replace hg31 := of_decide_eq_true hg31
      refine K.seq_pure (K.move) rfl ?_
      dsimp only [setd, setn, ev, nth]
      refine K.seq_pure (K.mul_i64 rfl rfl (by omega)) rfl ?_
      dsimp only [setd, setn, ev, nth]
      refine K.seq_pure (K.fieldAddr_lit fo_36_1 rfl) rfl ?_
      dsimp only [setd, setn, ev, nth]
      refine K.seq_sil (K.load1_own one_3 rfl (K.m0) rfl) rfl ?_
      try dsimp only [setd, setn, ev, nth, over, cl, eI, eP, eT, List.map, List.append, List.drop, List.take]
      refine K.seq_pure (K.geq rfl rfl) rfl ?_
      dsimp only [setd, setn, ev, nth]
      refine K.seq_pure (K.pick_t rfl) rfl ?_
      dsimp only [setd, setn, ev, nth]
      refine K.seq_pure (K.pick_f rfl) rfl ?_
      dsimp only [setd, setn, ev, nth]
      refine K.seq_nil ?_
      refine K.norm_then ?_
      refine K.cond rfl (fun ht38 => ?_) (fun ht38 => ?_)
      · try replace ht38 := of_decide_eq_true ht38
        refine K.region_lit ?_
        refine K.seq_pure (K.move) rfl ?_
        dsimp only [setd, setn, ev, nth]
        refine K.seq_pure (K.add_i64 rfl rfl (by omega)) rfl ?_
        dsimp only [setd, setn, ev, nth]
        refine K.seq_pure (K.assign) rfl ?_
        dsimp only [setd, setn, ev, nth]
        refine K.seq_nil ?_
        refine K.norm_then ?_
        refine K.seq ?_
        refine K.region_lit ?_
        refine K.seq_pure (K.move) rfl ?_
        dsimp only [setd, setn, ev, nth]
        refine K.seq_pure (K.assign) rfl ?_
        dsimp only [setd, setn, ev, nth]
        refine K.seq_nil ?_
        refine K.norm_then ?_
        refine K.ret ?_
        refine K.end_ret (fun w _ => K.res_tmp rfl w) ?_
        exact K.gives_i rfl (by unfold cutS; split <;> omega)
      try replace ht38 := of_decide_eq_false ht38
      refine K.skip ?_
      refine K.norm_then ?_
      refine K.seq ?_
      refine K.region_lit ?_
      refine K.seq_pure (K.move) rfl ?_
      dsimp only [setd, setn, ev, nth]
      refine K.seq_pure (K.assign) rfl ?_
      dsimp only [setd, setn, ev, nth]
      refine K.seq_nil ?_
      refine K.norm_then ?_
      refine K.ret ?_
      refine K.end_ret (fun w _ => K.res_tmp rfl w) ?_
      exact K.gives_i rfl (by unfold cutS; split <;> omega)
    try replace hg31 := of_decide_eq_false hg31
    refine K.seq_skip ?_ ?_
    · rfl
    try dsimp only [setd, setn, ev, nth, over, cl, eI, eP, eT, List.map, List.append, List.drop, List.take]
    refine K.seq_skip ?_ ?_
    · rfl
    try dsimp only [setd, setn, ev, nth, over, cl, eI, eP, eT, List.map, List.append, List.drop, List.take]
    refine K.seq_skip ?_ ?_
    · rfl
    try dsimp only [setd, setn, ev, nth, over, cl, eI, eP, eT, List.map, List.append, List.drop, List.take]
    refine K.seq_skip ?_ ?_
    · rfl
    try dsimp only [setd, setn, ev, nth, over, cl, eI, eP, eT, List.map, List.append, List.drop, List.take]
    refine K.seq_skip ?_ ?_
    · rfl
    try dsimp only [setd, setn, ev, nth, over, cl, eI, eP, eT, List.map, List.append, List.drop, List.take]
    refine K.seq_pure (K.pick_f rfl) rfl ?_
    dsimp only [setd, setn, ev, nth]
    refine K.seq_pure (K.pick_f rfl) rfl ?_
    dsimp only [setd, setn, ev, nth]
    refine K.seq_nil ?_
    refine K.norm_then ?_
    refine K.cond_false rfl ?_
    refine K.skip ?_
    refine K.norm_then ?_
    refine K.seq ?_
    refine K.region_lit ?_
    refine K.seq_pure (K.move) rfl ?_
    dsimp only [setd, setn, ev, nth]
    refine K.seq_pure (K.assign) rfl ?_
    dsimp only [setd, setn, ev, nth]
    refine K.seq_nil ?_
    refine K.norm_then ?_
    refine K.ret ?_
    refine K.end_ret (fun w _ => K.res_tmp rfl w) ?_
    exact K.gives_i rfl (by unfold cutS; split <;> omega)
  try replace hg24 := of_decide_eq_false hg24
  refine K.seq_skip ?_ ?_
  · rfl
  try dsimp only [setd, setn, ev, nth, over, cl, eI, eP, eT, List.map, List.append, List.drop, List.take]
  refine K.seq_skip ?_ ?_
  · rfl
  try dsimp only [setd, setn, ev, nth, over, cl, eI, eP, eT, List.map, List.append, List.drop, List.take]
  refine K.seq_pure (K.pick_f rfl) rfl ?_
  dsimp only [setd, setn, ev, nth]
  refine K.seq_pure (K.move) rfl ?_
  dsimp only [setd, setn, ev, nth]
  refine K.seq_pure (K.move) rfl ?_
  dsimp only [setd, setn, ev, nth]
  refine K.seq_pure (K.eql rfl rfl) rfl ?_
  dsimp only [setd, setn, ev, nth]
  refine K.seq_pure (K.move) rfl ?_
  dsimp only [setd, setn, ev, nth]
  refine K.split 31 rfl (fun hg31 => ?_) (fun hg31 => ?_)
  · try replace hg31 := of_decide_eq_true hg31
    refine K.seq_pure (K.move) rfl ?_
    dsimp only [setd, setn, ev, nth]
    refine K.seq_pure (K.mul_i64 rfl rfl (by omega)) rfl ?_
    dsimp only [setd, setn, ev, nth]
    refine K.seq_pure (K.fieldAddr_lit fo_36_1 rfl) rfl ?_
    dsimp only [setd, setn, ev, nth]
    refine K.seq_sil (K.load1_own one_3 rfl (K.m0) rfl) rfl ?_
    try dsimp only [setd, setn, ev, nth, over, cl, eI, eP, eT, List.map, List.append, List.drop, List.take]
    refine K.seq_pure (K.geq rfl rfl) rfl ?_
    dsimp only [setd, setn, ev, nth]
    refine K.seq_pure (K.pick_t rfl) rfl ?_
    dsimp only [setd, setn, ev, nth]
    refine K.seq_pure (K.pick_f rfl) rfl ?_
    dsimp only [setd, setn, ev, nth]
    refine K.seq_nil ?_
    refine K.norm_then ?_
    refine K.cond rfl (fun ht38 => ?_) (fun ht38 => ?_)
    · try replace ht38 := of_decide_eq_true ht38
      refine K.region_lit ?_
      refine K.seq_pure (K.move) rfl ?_
      dsimp only [setd, setn, ev, nth]
      refine K.seq_pure (K.add_i64 rfl rfl (by omega)) rfl ?_
      dsimp only [setd, setn, ev, nth]
      refine K.seq_pure (K.assign) rfl ?_
      dsimp only [setd, setn, ev, nth]
      refine K.seq_nil ?_
      refine K.norm_then ?_
      refine K.seq ?_
      refine K.region_lit ?_
      refine K.seq_pure (K.move) rfl ?_
      dsimp only [setd, setn, ev, nth]
      refine K.seq_pure (K.assign) rfl ?_
      dsimp only [setd, setn, ev, nth]
      refine K.seq_nil ?_
      refine K.norm_then ?_
      refine K.ret ?_
      refine K.end_ret (fun w _ => K.res_tmp rfl w) ?_
      exact K.gives_i rfl (by unfold cutS; split <;> omega)
    try replace ht38 := of_decide_eq_false ht38
    refine K.skip ?_
    refine K.norm_then ?_
    refine K.seq ?_
    refine K.region_lit ?_
    refine K.seq_pure (K.move) rfl ?_
    dsimp only [setd, setn, ev, nth]
    refine K.seq_pure (K.assign) rfl ?_
    dsimp only [setd, setn, ev, nth]
    refine K.seq_nil ?_
    refine K.norm_then ?_
    refine K.ret ?_
    refine K.end_ret (fun w _ => K.res_tmp rfl w) ?_
    exact K.gives_i rfl (by unfold cutS; split <;> omega)
  try replace hg31 := of_decide_eq_false hg31
  refine K.seq_skip ?_ ?_
  · rfl
  try dsimp only [setd, setn, ev, nth, over, cl, eI, eP, eT, List.map, List.append, List.drop, List.take]
  refine K.seq_skip ?_ ?_
  · rfl
  try dsimp only [setd, setn, ev, nth, over, cl, eI, eP, eT, List.map, List.append, List.drop, List.take]
  refine K.seq_skip ?_ ?_
  · rfl
  try dsimp only [setd, setn, ev, nth, over, cl, eI, eP, eT, List.map, List.append, List.drop, List.take]
  refine K.seq_skip ?_ ?_
  · rfl
  try dsimp only [setd, setn, ev, nth, over, cl, eI, eP, eT, List.map, List.append, List.drop, List.take]
  refine K.seq_skip ?_ ?_
  · rfl
  try dsimp only [setd, setn, ev, nth, over, cl, eI, eP, eT, List.map, List.append, List.drop, List.take]
  refine K.seq_pure (K.pick_f rfl) rfl ?_
  dsimp only [setd, setn, ev, nth]
  refine K.seq_pure (K.pick_f rfl) rfl ?_
  dsimp only [setd, setn, ev, nth]
  refine K.seq_nil ?_
  refine K.norm_then ?_
  refine K.cond_false rfl ?_
  refine K.skip ?_
  refine K.norm_then ?_
  refine K.seq ?_
  refine K.region_lit ?_
  refine K.seq_pure (K.move) rfl ?_
  dsimp only [setd, setn, ev, nth]
  refine K.seq_pure (K.assign) rfl ?_
  dsimp only [setd, setn, ev, nth]
  refine K.seq_nil ?_
  refine K.norm_then ?_
  refine K.ret ?_
  refine K.end_ret (fun w _ => K.res_tmp rfl w) ?_
  exact K.gives_i rfl (by unfold cutS; split <;> omega)

set_option maxRecDepth 100000 in
theorem c37 {a b : Int} (w : World) :
    Calls Try.prog 29 [.int .i64 a, .int .i64 b].toArray w (K.Gives (.agg #[.int .i64 a, .int .i64 b]) w) := by
  refine K.enter (args := [.int .i64 a, .int .i64 b]) Try.func29 rfl (n := 6) rfl ?_
  simp only [List.replicate, List.cons_append, List.nil_append]
  refine K.seq ?_
  refine K.region_lit ?_
  refine K.seq_new (K.alloc zr_36) rfl ?_
  intro b4
  try dsimp only [setd, setn, ev, nth, over, cl, eI, eP, eT, List.map, List.append, List.drop, List.take]
  refine K.seq_nil ?_
  refine K.norm_then ?_
  refine K.seq ?_
  refine K.region_lit ?_
  refine K.seq_pure (K.move) rfl ?_
  dsimp only [setd, setn, ev, nth]
  refine K.seq_pure (K.move) rfl ?_
  dsimp only [setd, setn, ev, nth]
  refine K.seq_pure (K.build (bl27 _ _)) rfl ?_
  try dsimp only [setd, setn, ev, nth, over, cl, eI, eP, eT, List.map, List.append, List.drop, List.take]
  refine K.seq_st (K.store_all sz_36 rfl rfl rfl rfl (K.rp0)) rfl ?_
  try dsimp only [setd, setn, ev, nth, over, cl, eI, eP, eT, List.map, List.append, List.drop, List.take]
  refine K.seq_nil ?_
  refine K.norm_then ?_
  refine K.ret ?_
  refine K.end_ret (fun w hw => K.res_c rfl rfl (K.run_cellA ag_36 rfl (List.Mem.head _) rfl w hw)) ?_
  exact K.gives rfl

set_option maxRecDepth 100000 in
theorem c79 {a b : Int} (w : World) :
    Calls Try.prog 65 [.int .i64 a, .int .i64 b].toArray w (K.Gives (.agg #[.int .i64 a, .int .i64 b]) w) := by
  refine K.enter (args := [.int .i64 a, .int .i64 b]) Try.func65 rfl (n := 6) rfl ?_
  simp only [List.replicate, List.cons_append, List.nil_append]
  refine K.seq ?_
  refine K.region_lit ?_
  refine K.seq_new (K.alloc zr_52) rfl ?_
  intro b4
  try dsimp only [setd, setn, ev, nth, over, cl, eI, eP, eT, List.map, List.append, List.drop, List.take]
  refine K.seq_nil ?_
  refine K.norm_then ?_
  refine K.seq ?_
  refine K.region_lit ?_
  refine K.seq_pure (K.move) rfl ?_
  dsimp only [setd, setn, ev, nth]
  refine K.seq_pure (K.move) rfl ?_
  dsimp only [setd, setn, ev, nth]
  refine K.seq_pure (K.build (bl51 _ _)) rfl ?_
  try dsimp only [setd, setn, ev, nth, over, cl, eI, eP, eT, List.map, List.append, List.drop, List.take]
  refine K.seq_st (K.store_all sz_52 rfl rfl rfl rfl (K.rp0)) rfl ?_
  try dsimp only [setd, setn, ev, nth, over, cl, eI, eP, eT, List.map, List.append, List.drop, List.take]
  refine K.seq_nil ?_
  refine K.norm_then ?_
  refine K.ret ?_
  refine K.end_ret (fun w hw => K.res_c rfl rfl (K.run_cellA ag_52 rfl (List.Mem.head _) rfl w hw)) ?_
  exact K.gives rfl

set_option maxRecDepth 100000 in
theorem c38 {p a b : Int} (w : World) :
    Calls Try.prog 35 [.int .i64 p, .int .i64 a, .int .i64 b].toArray w (K.Gives (.agg #[.int .i64 p, .int .i64 a, .int .i64 b]) w) := by
  refine K.enter (args := [.int .i64 p, .int .i64 a, .int .i64 b]) Try.func35 rfl (n := 9) rfl ?_
  simp only [List.replicate, List.cons_append, List.nil_append]
  refine K.seq ?_
  refine K.region_lit ?_
  refine K.seq_new (K.alloc zr_82) rfl ?_
  intro b6
  try dsimp only [setd, setn, ev, nth, over, cl, eI, eP, eT, List.map, List.append, List.drop, List.take]
  refine K.seq_nil ?_
  refine K.norm_then ?_
  refine K.seq ?_
  refine K.region_lit ?_
  refine K.seq_pure (K.move) rfl ?_
  dsimp only [setd, setn, ev, nth]
  refine K.seq_pure (K.move) rfl ?_
  dsimp only [setd, setn, ev, nth]
  refine K.seq_pure (K.move) rfl ?_
  dsimp only [setd, setn, ev, nth]
  refine K.seq_call (K.call_g cal_65 (fun F w hF hw => c79 w)) rfl ?_
  try dsimp only [setd, setn, ev, nth, over, cl, eI, eP, eT, List.map, List.append, List.drop, List.take]
  refine K.seq_pure (K.build (bl53 _ _ _)) rfl ?_
  try dsimp only [setd, setn, ev, nth, over, cl, eI, eP, eT, List.map, List.append, List.drop, List.take]
  refine K.seq_st (K.store_all sz_82 rfl rfl rfl rfl (K.rp0)) rfl ?_
  try dsimp only [setd, setn, ev, nth, over, cl, eI, eP, eT, List.map, List.append, List.drop, List.take]
  refine K.seq_nil ?_
  refine K.norm_then ?_
  refine K.ret ?_
  refine K.end_ret (fun w hw => K.res_c rfl rfl (K.run_cellA ag_82 rfl (List.Mem.head _) rfl w hw)) ?_
  exact K.gives rfl

end Go.Proofs.Ytfbglomliankmaa.Sc
end
section
set_option linter.unusedSimpArgs false
set_option linter.unusedVariables false
namespace Go.Proofs.Ytfbglomliankmaa.Sc
open Go.RowKit Go
open Go.K (setd setn ev nth over cl eI eP eT setM setF)
attribute [local irreducible] K.blk K.row
theorem c52_1 {lo hi x : Int} {w0 w : World} {F : List K.Chunk} {b : Nat} (hw : K.St w0 F w) (hm : K.blk b 3 [.int .i64 x] ∈ F) :
    Calls Try.prog 59 [.int .i64 lo, .int .i64 hi, .slice (some ⟨b, 0, none⟩) 1 1].toArray w (K.Gives (.bool (decide (¬ (lo ≤ x ∧ x ≤ hi)))) w) := by
  have h := c52 (lo := lo) (hi := hi) (c := 1) (xs := [x]) (K.Rd.lit hw hm (fun _ => rfl) (by decide) rfl) (by simp)
  have e : outB lo hi [x] = decide (¬ (lo ≤ x ∧ x ≤ hi)) := by
    rw [Bool.eq_iff_iff]; simp [outB]
    try omega
  rw [e] at h
  exact h
theorem c52_2 {lo hi x y : Int} {w0 w : World} {F : List K.Chunk} {b : Nat} (hw : K.St w0 F w) (hm : K.blk b 3 [.int .i64 x, .int .i64 y] ∈ F) :
    Calls Try.prog 59 [.int .i64 lo, .int .i64 hi, .slice (some ⟨b, 0, none⟩) 2 2].toArray w (K.Gives (.bool (decide (¬ ((lo ≤ x ∧ x ≤ hi) ∧ (lo ≤ y ∧ y ≤ hi))))) w) := by
  have h := c52 (lo := lo) (hi := hi) (c := 2) (xs := [x, y]) (K.Rd.lit hw hm (fun _ => rfl) (by decide) rfl) (by simp)
  have e : outB lo hi [x, y] = decide (¬ ((lo ≤ x ∧ x ≤ hi) ∧ (lo ≤ y ∧ y ≤ hi))) := by
    rw [Bool.eq_iff_iff]; simp [outB]; omega
  rw [e] at h
  exact h

set_option maxRecDepth 100000 in
theorem c53 {A : Option Addr} {c f : Nat} {cap : List Value} {xs : List Int} {q : Int → Int} {w : World} (hR : K.Rd w A 1 K.eI xs) (hn : xs.length ≤ 4611686018427387904) (hcal : K.callable Try.prog f = true) (hf : ∀ x ∈ xs, ∀ w1, Below w.heap.size w w1 → Calls Try.prog f ([Value.int .i64 x] ++ cap).toArray w1 (K.Gives (.int .i64 (q x)) w1)) :
    Calls Try.prog 83 [.slice A xs.length c, .func (.func f) #[] cap.toArray].toArray w (K.Gives (K.tup2 (K.fst q xs)) w) := by
  refine K.enter (args := [.slice A xs.length c, .func (.func f) #[] cap.toArray]) Try.func83 rfl (n := 22) rfl ?_
  simp only [List.replicate, List.cons_append, List.nil_append]
  refine K.seq ?_
  refine K.region_lit ?_
  refine K.seq_pure (K.assign) rfl ?_
  dsimp only [setd, setn, ev, nth]
  refine K.seq_pure (K.assign) rfl ?_
  dsimp only [setd, setn, ev, nth]
  refine K.seq_nil ?_
  refine K.norm_then ?_
  refine K.seq ?_
  refine K.seq ?_
  refine K.region_lit ?_
  refine K.seq_pure (K.move) rfl ?_
  dsimp only [setd, setn, ev, nth]
  refine K.seq_pure (K.len_sl sl_31 rfl) rfl ?_
  dsimp only [setd, setn, ev, nth]
  refine K.seq_pure (K.move) rfl ?_
  dsimp only [setd, setn, ev, nth]
  refine K.seq_nil ?_
  refine K.norm_then ?_
  refine K.block ?_
  refine K.loopW [11] [4, 5, 6, 7, 8, 12, 13, 14, 15, 16, 17, 18, 19, 20, 21, 22, 23] (fun vi L => ∃ k : Nat, vi = [.int .i64 (k : Int)] ∧ L = [] ∧ k ≤ xs.length ∧ ∀ j, j < k → q (xs.getD j default) = 0) (fun vi => xs.length - (intOf (K.nth vi 0)).toNat) ?_ ?_
  · exact ⟨0, rfl, rfl, Nat.zero_le _, fun j hj => absurd hj (Nat.not_lt_zero j)⟩
  intro vi vr L hJ
  obtain ⟨k, rfl, rfl, hkn, hall⟩ := hJ
  try dsimp only [setd, setn, ev, nth, over, cl, eI, eP, eT, setM, setF, List.map, List.append, List.drop, List.take]
  refine K.seq ?_
  refine K.region_lit ?_
  refine K.seq_pure (K.lss rfl rfl) rfl ?_
  dsimp only [setd, setn, ev, nth]
  refine K.seq_nil ?_
  refine K.norm_then ?_
  refine K.seq ?_
  refine K.cond rfl (fun ht12 => ?_) (fun ht12 => ?_)
  · try replace ht12 := of_decide_eq_true ht12
    have hk : k < xs.length := by omega
    refine K.skip ?_
    refine K.norm_then ?_
    refine K.seq ?_
    refine K.block ?_
    refine K.seq ?_
    refine K.region_lit ?_
    refine K.seq_pure (K.move) rfl ?_
    dsimp only [setd, setn, ev, nth]
    refine K.seq_ix (M := []) _ hR.sl sl_31 rfl rfl rfl (by omega) rfl ?_
    intro p14 hp14
    try dsimp only [setd, setn, ev, nth, over, cl, eI, eP, eT, List.map, List.append, List.drop, List.take]
    refine K.seq_sil (K.load1 one_3 rfl (hp14.any)) rfl ?_
    try dsimp only [setd, setn, ev, nth, over, cl, eI, eP, eT, List.map, List.append, List.drop, List.take]
    refine K.seq_pure (K.assign) rfl ?_
    dsimp only [setd, setn, ev, nth]
    refine K.seq_pure (K.assign) rfl ?_
    dsimp only [setd, setn, ev, nth]
    refine K.seq_nil ?_
    refine K.norm_then ?_
    refine K.seq ?_
    refine K.region_lit ?_
    refine K.seq_pure (K.move) rfl ?_
    dsimp only [setd, setn, ev, nth]
    refine K.seq_pure (K.move) rfl ?_
    dsimp only [setd, setn, ev, nth]
    refine K.seq_call (K.callv_g (first := []) (cap := cap) rfl hcal (fun F w1 _ hw => hf _ (K.gt_mem hk) w1 hw.1)) rfl ?_
    try dsimp only [setd, setn, ev, nth, over, cl, eI, eP, eT, List.map, List.append, List.drop, List.take]
    refine K.seq_pure (K.assign) rfl ?_
    dsimp only [setd, setn, ev, nth]
    refine K.seq_nil ?_
    refine K.norm_then ?_
    refine K.seq ?_
    refine K.region_lit ?_
    refine K.seq_pure (K.move) rfl ?_
    dsimp only [setd, setn, ev, nth]
    refine K.seq_pure (K.neq rfl rfl) rfl ?_
    dsimp only [setd, setn, ev, nth]
    refine K.seq_nil ?_
    refine K.norm_then ?_
    refine K.cond rfl (fun ht20 => ?_) (fun ht20 => ?_)
    · try replace ht20 := of_decide_eq_true ht20
      refine K.seq ?_
      refine K.region_lit ?_
      refine K.seq_pure (K.move) rfl ?_
      dsimp only [setd, setn, ev, nth]
      refine K.seq_pure (K.move) rfl ?_
      dsimp only [setd, setn, ev, nth]
      refine K.seq_pure (K.assign) rfl ?_
      dsimp only [setd, setn, ev, nth]
      refine K.seq_pure (K.assign) rfl ?_
      dsimp only [setd, setn, ev, nth]
      refine K.seq_nil ?_
      refine K.norm_then ?_
      refine K.ret ?_
      refine K.ret_block ?_
      refine K.ret_then ?_
      refine K.ret_then ?_
      refine K.ret_block ?_
      refine K.ret_then ?_
      refine K.end_ret (fun w _ => K.res_tmp2 rfl w) ?_
      exact K.gives (by rw [K.fst_found hk hall ht20]; rfl)
    try replace ht20 := of_decide_eq_false ht20
    have hz : q (xs.getD k default) = 0 := by omega
    refine K.skip ?_
    refine K.norm_block ?_
    refine K.norm_then ?_
    refine K.region_lit ?_
    refine K.seq_pure (K.add_i64 rfl rfl (by omega)) rfl ?_
    dsimp only [setd, setn, ev, nth]
    refine K.seq_pure (K.move) rfl ?_
    dsimp only [setd, setn, ev, nth]
    refine K.seq_nil ?_
    exact K.round_endW (L'' := []) [.int .i64 ((k : Int) + 1)] ⟨k + 1, rfl, rfl, by omega, K.lt_succ_case hall hz⟩ (by simp [K.nth, intOf]; omega) (List.nil_sublist _) (by kernel_rfl)
  try replace ht12 := of_decide_eq_false ht12
  refine K.exit ?_
  refine K.exit_then ?_
  refine K.exit_then ?_
  refine K.exit_here ?_
  refine K.norm_then ?_
  refine K.seq ?_
  refine K.region_lit ?_
  refine K.seq_pure (K.assign) rfl ?_
  dsimp only [setd, setn, ev, nth]
  refine K.seq_pure (K.assign) rfl ?_
  dsimp only [setd, setn, ev, nth]
  refine K.seq_nil ?_
  refine K.norm_then ?_
  refine K.ret ?_
  refine K.end_ret (fun w _ => K.res_tmp2 rfl w) ?_
  exact K.gives (by rw [K.fst_none (fun j hj => hall j (by omega))]; rfl)

set_option maxRecDepth 100000 in
theorem c55 {A : Option Addr} {c f : Nat} {cap : List Value} {xs : List (Int × Int)} {q : (Int × Int) → Int} {w : World} (hR : K.Rd w A 2 K.eP xs) (hn : xs.length ≤ 4611686018427387904) (hcal : K.callable Try.prog f = true) (hf : ∀ x ∈ xs, ∀ w1, Below w.heap.size w w1 → Calls Try.prog f ([Value.agg (K.eP x).toArray] ++ cap).toArray w1 (K.Gives (.int .i64 (q x)) w1)) :
    Calls Try.prog 85 [.slice A xs.length c, .func (.func f) #[] cap.toArray].toArray w (K.Gives (K.tup2 (K.fst q xs)) w) := by
  refine K.enter (args := [.slice A xs.length c, .func (.func f) #[] cap.toArray]) Try.func85 rfl (n := 22) rfl ?_
  simp only [List.replicate, List.cons_append, List.nil_append]
  refine K.seq ?_
  refine K.region_lit ?_
  refine K.seq_pure (K.assign) rfl ?_
  dsimp only [setd, setn, ev, nth]
  refine K.seq_pure (K.assign) rfl ?_
  dsimp only [setd, setn, ev, nth]
  refine K.seq_nil ?_
  refine K.norm_then ?_
  refine K.seq ?_
  refine K.seq ?_
  refine K.region_lit ?_
  refine K.seq_pure (K.move) rfl ?_
  dsimp only [setd, setn, ev, nth]
  refine K.seq_pure (K.len_sl sl_39 rfl) rfl ?_
  dsimp only [setd, setn, ev, nth]
  refine K.seq_pure (K.move) rfl ?_
  dsimp only [setd, setn, ev, nth]
  refine K.seq_nil ?_
  refine K.norm_then ?_
  refine K.block ?_
  refine K.loopW [11] [4, 5, 6, 7, 8, 12, 13, 14, 15, 16, 17, 18, 19, 20, 21, 22, 23] (fun vi L => ∃ k : Nat, vi = [.int .i64 (k : Int)] ∧ L = [] ∧ k ≤ xs.length ∧ ∀ j, j < k → q (xs.getD j default) = 0) (fun vi => xs.length - (intOf (K.nth vi 0)).toNat) ?_ ?_
  · exact ⟨0, rfl, rfl, Nat.zero_le _, fun j hj => absurd hj (Nat.not_lt_zero j)⟩
  intro vi vr L hJ
  obtain ⟨k, rfl, rfl, hkn, hall⟩ := hJ
  try dsimp only [setd, setn, ev, nth, over, cl, eI, eP, eT, setM, setF, List.map, List.append, List.drop, List.take]
  refine K.seq ?_
  refine K.region_lit ?_
  refine K.seq_pure (K.lss rfl rfl) rfl ?_
  dsimp only [setd, setn, ev, nth]
  refine K.seq_nil ?_
  refine K.norm_then ?_
  refine K.seq ?_
  refine K.cond rfl (fun ht12 => ?_) (fun ht12 => ?_)
  · try replace ht12 := of_decide_eq_true ht12
    have hk : k < xs.length := by omega
    refine K.skip ?_
    refine K.norm_then ?_
    refine K.seq ?_
    refine K.block ?_
    refine K.seq ?_
    refine K.region_lit ?_
    refine K.seq_pure (K.move) rfl ?_
    dsimp only [setd, setn, ev, nth]
    refine K.seq_ix (M := []) _ hR.sl sl_39 rfl rfl rfl (by omega) rfl ?_
    intro p14 hp14
    try dsimp only [setd, setn, ev, nth, over, cl, eI, eP, eT, List.map, List.append, List.drop, List.take]
    refine K.seq_sil (K.loadA_p ag_124 rfl (hp14.any) rfl) rfl ?_
    try dsimp only [setd, setn, ev, nth, over, cl, eI, eP, eT, List.map, List.append, List.drop, List.take]
    refine K.seq_new (K.alloc zr_124) rfl ?_
    intro b7
    try dsimp only [setd, setn, ev, nth, over, cl, eI, eP, eT, List.map, List.append, List.drop, List.take]
    refine K.seq_pure (K.assign) rfl ?_
    dsimp only [setd, setn, ev, nth]
    refine K.seq_st (K.store_all sz_124 rfl rfl rfl rfl (K.rp0)) rfl ?_
    try dsimp only [setd, setn, ev, nth, over, cl, eI, eP, eT, List.map, List.append, List.drop, List.take]
    refine K.seq_nil ?_
    refine K.norm_then ?_
    refine K.seq ?_
    refine K.region_lit ?_
    refine K.seq_pure (K.move) rfl ?_
    dsimp only [setd, setn, ev, nth]
    refine K.seq_sil (K.loadA_own ag_124 rfl (K.m0) rfl) rfl ?_
    try dsimp only [setd, setn, ev, nth, over, cl, eI, eP, eT, List.map, List.append, List.drop, List.take]
    refine K.seq_call (K.callv_g (first := []) (cap := cap) rfl hcal (fun F w1 _ hw => hf _ (K.gt_mem hk) w1 hw.1)) rfl ?_
    try dsimp only [setd, setn, ev, nth, over, cl, eI, eP, eT, List.map, List.append, List.drop, List.take]
    refine K.seq_pure (K.assign) rfl ?_
    dsimp only [setd, setn, ev, nth]
    refine K.seq_nil ?_
    refine K.norm_then ?_
    refine K.seq ?_
    refine K.region_lit ?_
    refine K.seq_pure (K.move) rfl ?_
    dsimp only [setd, setn, ev, nth]
    refine K.seq_pure (K.neq rfl rfl) rfl ?_
    dsimp only [setd, setn, ev, nth]
    refine K.seq_nil ?_
    refine K.norm_then ?_
    refine K.cond rfl (fun ht20 => ?_) (fun ht20 => ?_)
    · try replace ht20 := of_decide_eq_true ht20
      refine K.seq ?_
      refine K.region_lit ?_
      refine K.seq_pure (K.move) rfl ?_
      dsimp only [setd, setn, ev, nth]
      refine K.seq_pure (K.move) rfl ?_
      dsimp only [setd, setn, ev, nth]
      refine K.seq_pure (K.assign) rfl ?_
      dsimp only [setd, setn, ev, nth]
      refine K.seq_pure (K.assign) rfl ?_
      dsimp only [setd, setn, ev, nth]
      refine K.seq_nil ?_
      refine K.norm_then ?_
      refine K.ret ?_
      refine K.ret_block ?_
      refine K.ret_then ?_
      refine K.ret_then ?_
      refine K.ret_block ?_
      refine K.ret_then ?_
      refine K.end_ret (fun w _ => K.res_tmp2 rfl w) ?_
      exact K.gives (by rw [K.fst_found hk hall ht20]; rfl)
    try replace ht20 := of_decide_eq_false ht20
    have hz : q (xs.getD k default) = 0 := by omega
    refine K.skip ?_
    refine K.norm_block ?_
    refine K.norm_then ?_
    refine K.region_lit ?_
    refine K.seq_pure (K.add_i64 rfl rfl (by omega)) rfl ?_
    dsimp only [setd, setn, ev, nth]
    refine K.seq_pure (K.move) rfl ?_
    dsimp only [setd, setn, ev, nth]
    refine K.seq_nil ?_
    exact K.round_endW (L'' := []) [.int .i64 ((k : Int) + 1)] ⟨k + 1, rfl, rfl, by omega, K.lt_succ_case hall hz⟩ (by simp [K.nth, intOf]; omega) (List.nil_sublist _) (by kernel_rfl)
  try replace ht12 := of_decide_eq_false ht12
  refine K.exit ?_
  refine K.exit_then ?_
  refine K.exit_then ?_
  refine K.exit_here ?_
  refine K.norm_then ?_
  refine K.seq ?_
  refine K.region_lit ?_
  refine K.seq_pure (K.assign) rfl ?_
  dsimp only [setd, setn, ev, nth]
  refine K.seq_pure (K.assign) rfl ?_
  dsimp only [setd, setn, ev, nth]
  refine K.seq_nil ?_
  refine K.norm_then ?_
  refine K.ret ?_
  refine K.end_ret (fun w _ => K.res_tmp2 rfl w) ?_
  exact K.gives (by rw [K.fst_none (fun j hj => hall j (by omega))]; rfl)

set_option maxRecDepth 100000 in
theorem c85 {A : Option Addr} {c f : Nat} {cap : List Value} {xs : List (Int × Int)} {q : (Int × Int) → Int} {w : World} (hR : K.Rd w A 2 K.eP xs) (hn : xs.length ≤ 4611686018427387904) (hcal : K.callable Try.prog f = true) (hf : ∀ x ∈ xs, ∀ w1, Below w.heap.size w w1 → Calls Try.prog f ([Value.agg (K.eP x).toArray] ++ cap).toArray w1 (K.Gives (.int .i64 (q x)) w1)) :
    Calls Try.prog 70 [.slice A xs.length c, .func (.func f) #[] cap.toArray].toArray w (K.Gives (K.tup2 (K.fst q xs)) w) := by
  refine K.enter (args := [.slice A xs.length c, .func (.func f) #[] cap.toArray]) Try.func70 rfl (n := 22) rfl ?_
  simp only [List.replicate, List.cons_append, List.nil_append]
  refine K.seq ?_
  refine K.region_lit ?_
  refine K.seq_pure (K.assign) rfl ?_
  dsimp only [setd, setn, ev, nth]
  refine K.seq_pure (K.assign) rfl ?_
  dsimp only [setd, setn, ev, nth]
  refine K.seq_nil ?_
  refine K.norm_then ?_
  refine K.seq ?_
  refine K.seq ?_
  refine K.region_lit ?_
  refine K.seq_pure (K.move) rfl ?_
  dsimp only [setd, setn, ev, nth]
  refine K.seq_pure (K.len_sl sl_78 rfl) rfl ?_
  dsimp only [setd, setn, ev, nth]
  refine K.seq_pure (K.move) rfl ?_
  dsimp only [setd, setn, ev, nth]
  refine K.seq_nil ?_
  refine K.norm_then ?_
  refine K.block ?_
  refine K.loopW [11] [4, 5, 6, 7, 8, 12, 13, 14, 15, 16, 17, 18, 19, 20, 21, 22, 23] (fun vi L => ∃ k : Nat, vi = [.int .i64 (k : Int)] ∧ L = [] ∧ k ≤ xs.length ∧ ∀ j, j < k → q (xs.getD j default) = 0) (fun vi => xs.length - (intOf (K.nth vi 0)).toNat) ?_ ?_
  · exact ⟨0, rfl, rfl, Nat.zero_le _, fun j hj => absurd hj (Nat.not_lt_zero j)⟩
  intro vi vr L hJ
  obtain ⟨k, rfl, rfl, hkn, hall⟩ := hJ
  try dsimp only [setd, setn, ev, nth, over, cl, eI, eP, eT, setM, setF, List.map, List.append, List.drop, List.take]
  refine K.seq ?_
  refine K.region_lit ?_
  refine K.seq_pure (K.lss rfl rfl) rfl ?_
  dsimp only [setd, setn, ev, nth]
  refine K.seq_nil ?_
  refine K.norm_then ?_
  refine K.seq ?_
  refine K.cond rfl (fun ht12 => ?_) (fun ht12 => ?_)
  · try replace ht12 := of_decide_eq_true ht12
    have hk : k < xs.length := by omega
    refine K.skip ?_
    refine K.norm_then ?_
    refine K.seq ?_
    refine K.block ?_
    refine K.seq ?_
    refine K.region_lit ?_
    refine K.seq_pure (K.move) rfl ?_
    dsimp only [setd, setn, ev, nth]
    refine K.seq_ix (M := []) _ hR.sl sl_78 rfl rfl rfl (by omega) rfl ?_
    intro p14 hp14
    try dsimp only [setd, setn, ev, nth, over, cl, eI, eP, eT, List.map, List.append, List.drop, List.take]
    refine K.seq_sil (K.loadA_p ag_36 rfl (hp14.any) rfl) rfl ?_
    try dsimp only [setd, setn, ev, nth, over, cl, eI, eP, eT, List.map, List.append, List.drop, List.take]
    refine K.seq_new (K.alloc zr_36) rfl ?_
    intro b7
    try dsimp only [setd, setn, ev, nth, over, cl, eI, eP, eT, List.map, List.append, List.drop, List.take]
    refine K.seq_pure (K.assign) rfl ?_
    dsimp only [setd, setn, ev, nth]
    refine K.seq_st (K.store_all sz_36 rfl rfl rfl rfl (K.rp0)) rfl ?_
    try dsimp only [setd, setn, ev, nth, over, cl, eI, eP, eT, List.map, List.append, List.drop, List.take]
    refine K.seq_nil ?_
    refine K.norm_then ?_
    refine K.seq ?_
    refine K.region_lit ?_
    refine K.seq_pure (K.move) rfl ?_
    dsimp only [setd, setn, ev, nth]
    refine K.seq_sil (K.loadA_own ag_36 rfl (K.m0) rfl) rfl ?_
    try dsimp only [setd, setn, ev, nth, over, cl, eI, eP, eT, List.map, List.append, List.drop, List.take]
    refine K.seq_call (K.callv_g (first := []) (cap := cap) rfl hcal (fun F w1 _ hw => hf _ (K.gt_mem hk) w1 hw.1)) rfl ?_
    try dsimp only [setd, setn, ev, nth, over, cl, eI, eP, eT, List.map, List.append, List.drop, List.take]
    refine K.seq_pure (K.assign) rfl ?_
    dsimp only [setd, setn, ev, nth]
    refine K.seq_nil ?_
    refine K.norm_then ?_
    refine K.seq ?_
    refine K.region_lit ?_
    refine K.seq_pure (K.move) rfl ?_
    dsimp only [setd, setn, ev, nth]
    refine K.seq_pure (K.neq rfl rfl) rfl ?_
    dsimp only [setd, setn, ev, nth]
    refine K.seq_nil ?_
    refine K.norm_then ?_
    refine K.cond rfl (fun ht20 => ?_) (fun ht20 => ?_)
    · try replace ht20 := of_decide_eq_true ht20
      refine K.seq ?_
      refine K.region_lit ?_
      refine K.seq_pure (K.move) rfl ?_
      dsimp only [setd, setn, ev, nth]
      refine K.seq_pure (K.move) rfl ?_
      dsimp only [setd, setn, ev, nth]
      refine K.seq_pure (K.assign) rfl ?_
      dsimp only [setd, setn, ev, nth]
      refine K.seq_pure (K.assign) rfl ?_
      dsimp only [setd, setn, ev, nth]
      refine K.seq_nil ?_
      refine K.norm_then ?_
      refine K.ret ?_
      refine K.ret_block ?_
      refine K.ret_then ?_
      refine K.ret_then ?_
      refine K.ret_block ?_
      refine K.ret_then ?_
      refine K.end_ret (fun w _ => K.res_tmp2 rfl w) ?_
      exact K.gives (by rw [K.fst_found hk hall ht20]; rfl)
    try replace ht20 := of_decide_eq_false ht20
    have hz : q (xs.getD k default) = 0 := by omega
    refine K.skip ?_
    refine K.norm_block ?_
    refine K.norm_then ?_
    refine K.region_lit ?_
    refine K.seq_pure (K.add_i64 rfl rfl (by omega)) rfl ?_
    dsimp only [setd, setn, ev, nth]
    refine K.seq_pure (K.move) rfl ?_
    dsimp only [setd, setn, ev, nth]
    refine K.seq_nil ?_
    exact K.round_endW (L'' := []) [.int .i64 ((k : Int) + 1)] ⟨k + 1, rfl, rfl, by omega, K.lt_succ_case hall hz⟩ (by simp [K.nth, intOf]; omega) (List.nil_sublist _) (by kernel_rfl)
  try replace ht12 := of_decide_eq_false ht12
  refine K.exit ?_
  refine K.exit_then ?_
  refine K.exit_then ?_
  refine K.exit_here ?_
  refine K.norm_then ?_
  refine K.seq ?_
  refine K.region_lit ?_
  refine K.seq_pure (K.assign) rfl ?_
  dsimp only [setd, setn, ev, nth]
  refine K.seq_pure (K.assign) rfl ?_
  dsimp only [setd, setn, ev, nth]
  refine K.seq_nil ?_
  refine K.norm_then ?_
  refine K.ret ?_
  refine K.end_ret (fun w _ => K.res_tmp2 rfl w) ?_
  exact K.gives (by rw [K.fst_none (fun j hj => hall j (by omega))]; rfl)

set_option maxRecDepth 100000 in
theorem c70 {A : Option Addr} {c f : Nat} {cap : List Value} {xs : List (Int × Int × Int)} {q : (Int × Int × Int) → Int} {w : World} (hR : K.Rd w A 3 K.eT xs) (hn : xs.length ≤ 4611686018427387904) (hcal : K.callable Try.prog f = true) (hf : ∀ x ∈ xs, ∀ w1, Below w.heap.size w w1 → Calls Try.prog f ([Value.agg (K.eT x).toArray] ++ cap).toArray w1 (K.Gives (.int .i64 (q x)) w1)) :
    Calls Try.prog 61 [.slice A xs.length c, .func (.func f) #[] cap.toArray].toArray w (K.Gives (K.tup2 (K.fst q xs)) w) := by
  refine K.enter (args := [.slice A xs.length c, .func (.func f) #[] cap.toArray]) Try.func61 rfl (n := 22) rfl ?_
  simp only [List.replicate, List.cons_append, List.nil_append]
  refine K.seq ?_
  refine K.region_lit ?_
  refine K.seq_pure (K.assign) rfl ?_
  dsimp only [setd, setn, ev, nth]
  refine K.seq_pure (K.assign) rfl ?_
  dsimp only [setd, setn, ev, nth]
  refine K.seq_nil ?_
  refine K.norm_then ?_
  refine K.seq ?_
  refine K.seq ?_
  refine K.region_lit ?_
  refine K.seq_pure (K.move) rfl ?_
  dsimp only [setd, setn, ev, nth]
  refine K.seq_pure (K.len_sl sl_84 rfl) rfl ?_
  dsimp only [setd, setn, ev, nth]
  refine K.seq_pure (K.move) rfl ?_
  dsimp only [setd, setn, ev, nth]
  refine K.seq_nil ?_
  refine K.norm_then ?_
  refine K.block ?_
  refine K.loopW [11] [4, 5, 6, 7, 8, 12, 13, 14, 15, 16, 17, 18, 19, 20, 21, 22, 23] (fun vi L => ∃ k : Nat, vi = [.int .i64 (k : Int)] ∧ L = [] ∧ k ≤ xs.length ∧ ∀ j, j < k → q (xs.getD j default) = 0) (fun vi => xs.length - (intOf (K.nth vi 0)).toNat) ?_ ?_
  · exact ⟨0, rfl, rfl, Nat.zero_le _, fun j hj => absurd hj (Nat.not_lt_zero j)⟩
  intro vi vr L hJ
  obtain ⟨k, rfl, rfl, hkn, hall⟩ := hJ
  try dsimp only [setd, setn, ev, nth, over, cl, eI, eP, eT, setM, setF, List.map, List.append, List.drop, List.take]
  refine K.seq ?_
  refine K.region_lit ?_
  refine K.seq_pure (K.lss rfl rfl) rfl ?_
  dsimp only [setd, setn, ev, nth]
  refine K.seq_nil ?_
  refine K.norm_then ?_
  refine K.seq ?_
  refine K.cond rfl (fun ht12 => ?_) (fun ht12 => ?_)
  · try replace ht12 := of_decide_eq_true ht12
    have hk : k < xs.length := by omega
    refine K.skip ?_
    refine K.norm_then ?_
    refine K.seq ?_
    refine K.block ?_
    refine K.seq ?_
    refine K.region_lit ?_
    refine K.seq_pure (K.move) rfl ?_
    dsimp only [setd, setn, ev, nth]
    refine K.seq_ix (M := []) _ hR.sl sl_84 rfl rfl rfl (by omega) rfl ?_
    intro p14 hp14
    try dsimp only [setd, setn, ev, nth, over, cl, eI, eP, eT, List.map, List.append, List.drop, List.take]
    refine K.seq_sil (K.loadA_p ag_82 rfl (hp14.any) rfl) rfl ?_
    try dsimp only [setd, setn, ev, nth, over, cl, eI, eP, eT, List.map, List.append, List.drop, List.take]
    refine K.seq_new (K.alloc zr_82) rfl ?_
    intro b7
    try dsimp only [setd, setn, ev, nth, over, cl, eI, eP, eT, List.map, List.append, List.drop, List.take]
    refine K.seq_pure (K.assign) rfl ?_
    dsimp only [setd, setn, ev, nth]
    refine K.seq_st (K.store_all sz_82 rfl rfl rfl rfl (K.rp0)) rfl ?_
    try dsimp only [setd, setn, ev, nth, over, cl, eI, eP, eT, List.map, List.append, List.drop, List.take]
    refine K.seq_nil ?_
    refine K.norm_then ?_
    refine K.seq ?_
    refine K.region_lit ?_
    refine K.seq_pure (K.move) rfl ?_
    dsimp only [setd, setn, ev, nth]
    refine K.seq_sil (K.loadA_own ag_82 rfl (K.m0) rfl) rfl ?_
    try dsimp only [setd, setn, ev, nth, over, cl, eI, eP, eT, List.map, List.append, List.drop, List.take]
    refine K.seq_call (K.callv_g (first := []) (cap := cap) rfl hcal (fun F w1 _ hw => hf _ (K.gt_mem hk) w1 hw.1)) rfl ?_
    try dsimp only [setd, setn, ev, nth, over, cl, eI, eP, eT, List.map, List.append, List.drop, List.take]
    refine K.seq_pure (K.assign) rfl ?_
    dsimp only [setd, setn, ev, nth]
    refine K.seq_nil ?_
    refine K.norm_then ?_
    refine K.seq ?_
    refine K.region_lit ?_
    refine K.seq_pure (K.move) rfl ?_
    dsimp only [setd, setn, ev, nth]
    refine K.seq_pure (K.neq rfl rfl) rfl ?_
    dsimp only [setd, setn, ev, nth]
    refine K.seq_nil ?_
    refine K.norm_then ?_
    refine K.cond rfl (fun ht20 => ?_) (fun ht20 => ?_)
    · try replace ht20 := of_decide_eq_true ht20
      refine K.seq ?_
      refine K.region_lit ?_
      refine K.seq_pure (K.move) rfl ?_
      dsimp only [setd, setn, ev, nth]
      refine K.seq_pure (K.move) rfl ?_
      dsimp only [setd, setn, ev, nth]
      refine K.seq_pure (K.assign) rfl ?_
      dsimp only [setd, setn, ev, nth]
      refine K.seq_pure (K.assign) rfl ?_
      dsimp only [setd, setn, ev, nth]
      refine K.seq_nil ?_
      refine K.norm_then ?_
      refine K.ret ?_
      refine K.ret_block ?_
      refine K.ret_then ?_
      refine K.ret_then ?_
      refine K.ret_block ?_
      refine K.ret_then ?_
      refine K.end_ret (fun w _ => K.res_tmp2 rfl w) ?_
      exact K.gives (by rw [K.fst_found hk hall ht20]; rfl)
    try replace ht20 := of_decide_eq_false ht20
    have hz : q (xs.getD k default) = 0 := by omega
    refine K.skip ?_
    refine K.norm_block ?_
    refine K.norm_then ?_
    refine K.region_lit ?_
    refine K.seq_pure (K.add_i64 rfl rfl (by omega)) rfl ?_
    dsimp only [setd, setn, ev, nth]
    refine K.seq_pure (K.move) rfl ?_
    dsimp only [setd, setn, ev, nth]
    refine K.seq_nil ?_
    exact K.round_endW (L'' := []) [.int .i64 ((k : Int) + 1)] ⟨k + 1, rfl, rfl, by omega, K.lt_succ_case hall hz⟩ (by simp [K.nth, intOf]; omega) (List.nil_sublist _) (by kernel_rfl)
  try replace ht12 := of_decide_eq_false ht12
  refine K.exit ?_
  refine K.exit_then ?_
  refine K.exit_then ?_
  refine K.exit_here ?_
  refine K.norm_then ?_
  refine K.seq ?_
  refine K.region_lit ?_
  refine K.seq_pure (K.assign) rfl ?_
  dsimp only [setd, setn, ev, nth]
  refine K.seq_pure (K.assign) rfl ?_
  dsimp only [setd, setn, ev, nth]
  refine K.seq_nil ?_
  refine K.norm_then ?_
  refine K.ret ?_
  refine K.end_ret (fun w _ => K.res_tmp2 rfl w) ?_
  exact K.gives (by rw [K.fst_none (fun j hj => hall j (by omega))]; rfl)

set_option maxRecDepth 100000 in
theorem c54 {kind base most : Int} {A B : Option Addr} {c d : Nat} {hs : List Int} {rs : List (Int × Int)} {n : Int} {p : Addr} {w : World} (hp : K.PtrL w [] p [.int .i64 kind, .int .i64 base, .int .i64 most, .slice A hs.length c, .slice B rs.length d]) :
    Calls Try.prog 84 [.int .i64 n, .pointer (some p)].toArray w (K.Gives (.int .i64 (hE base n)) w) := by
  refine K.enter (args := [.int .i64 n, .pointer (some p)]) Try.func84 rfl (n := 7) rfl ?_
  simp only [List.replicate, List.cons_append, List.nil_append]
  refine K.seq ?_
  refine K.region_lit ?_
  refine K.seq_pure (K.assign) rfl ?_
  dsimp only [setd, setn, ev, nth]
  refine K.seq_nil ?_
  refine K.norm_then ?_
  refine K.seq ?_
  refine K.seq ?_
  refine K.region_lit ?_
  refine K.seq_pure (K.fieldAddr fo_41_1 rfl) rfl ?_
  dsimp only [setd, setn, ev, nth]
  refine K.seq_sil (K.load1 one_3 rfl ((K.PtrL.fld hp (k := 1)).any)) rfl ?_
  try dsimp only [setd, setn, ev, nth, over, cl, eI, eP, eT, List.map, List.append, List.drop, List.take]
  refine K.seq_pure (K.move) rfl ?_
  dsimp only [setd, setn, ev, nth]
  refine K.seq_new (K.buildSlice (bs1 _)) rfl ?_
  intro b7
  try dsimp only [setd, setn, ev, nth, over, cl, eI, eP, eT, List.map, List.append, List.drop, List.take]
  refine K.seq_call (K.call_g cal_59 (fun F w hF hw => c52_1 hw (hF _ (K.m0)))) rfl ?_
  try dsimp only [setd, setn, ev, nth, over, cl, eI, eP, eT, List.map, List.append, List.drop, List.take]
  refine K.seq_nil ?_
  refine K.norm_then ?_
  refine K.cond rfl (fun ht8 => ?_) (fun ht8 => ?_)
  · try replace ht8 := of_decide_eq_true ht8
    refine K.seq ?_
    refine K.region_lit ?_
    refine K.seq_pure (K.assign) rfl ?_
    dsimp only [setd, setn, ev, nth]
    refine K.seq_nil ?_
    refine K.norm_then ?_
    refine K.ret ?_
    refine K.ret_then ?_
    refine K.end_ret (fun w _ => K.res_tmp rfl w) ?_
    exact K.gives_i rfl (by unfold hE; rw [if_neg ht8])
  try replace ht8 := of_decide_eq_false ht8
  refine K.skip ?_
  refine K.norm_then ?_
  refine K.seq ?_
  refine K.region_lit ?_
  refine K.seq_pure (K.assign) rfl ?_
  dsimp only [setd, setn, ev, nth]
  refine K.seq_nil ?_
  refine K.norm_then ?_
  refine K.ret ?_
  refine K.end_ret (fun w _ => K.res_tmp rfl w) ?_
  exact K.gives_i rfl (by unfold hE; rw [if_pos (by omega)])

set_option maxRecDepth 100000 in
theorem c56 {kind base most : Int} {A B : Option Addr} {c d : Nat} {hs : List Int} {rs : List (Int × Int)} {r : Int × Int} {p : Addr} {w : World} (hp : K.PtrL w [] p [.int .i64 kind, .int .i64 base, .int .i64 most, .slice A hs.length c, .slice B rs.length d]) (hn : hs.length ≤ 4611686018427387904) :
    Calls Try.prog 86 [.agg (K.eP r).toArray, .pointer (some p)].toArray w (K.Gives (.int .i64 (roadE hs.length r)) w) := by
  refine K.enter (args := [.agg (K.eP r).toArray, .pointer (some p)]) Try.func86 rfl (n := 19) rfl ?_
  simp only [List.replicate, List.cons_append, List.nil_append]
  refine K.seq ?_
  refine K.region_lit ?_
  refine K.seq_new (K.box) rfl ?_
  intro b2
  try dsimp only [setd, setn, ev, nth, over, cl, eI, eP, eT, List.map, List.append, List.drop, List.take]
  refine K.seq_pure (K.assign) rfl ?_
  dsimp only [setd, setn, ev, nth]
  refine K.seq_nil ?_
  refine K.norm_then ?_
  refine K.seq ?_
  refine K.block ?_
  refine K.seq ?_
  refine K.region_lit ?_
  refine K.seq_pure (K.fieldAddr fo_41_3 rfl) rfl ?_
  dsimp only [setd, setn, ev, nth]
  refine K.seq_sil (K.load1 one_31 rfl ((K.PtrL.fld hp (k := 3)).any)) rfl ?_
  try dsimp only [setd, setn, ev, nth, over, cl, eI, eP, eT, List.map, List.append, List.drop, List.take]
  refine K.seq_pure (K.len_sl sl_31 rfl) rfl ?_
  dsimp only [setd, setn, ev, nth]
  refine K.seq_pure (K.sub_i64 rfl rfl (by omega)) rfl ?_
  dsimp only [setd, setn, ev, nth]
  refine K.seq_pure (K.fieldAddr_lit fo_124_0 rfl) rfl ?_
  dsimp only [setd, setn, ev, nth]
  refine K.seq_sil (K.load1_own one_3 rfl (K.m0) rfl) rfl ?_
  try dsimp only [setd, setn, ev, nth, over, cl, eI, eP, eT, List.map, List.append, List.drop, List.take]
  refine K.seq_pure (K.fieldAddr_lit fo_124_1 rfl) rfl ?_
  dsimp only [setd, setn, ev, nth]
  refine K.seq_sil (K.load1_own one_3 rfl (K.m0) rfl) rfl ?_
  try dsimp only [setd, setn, ev, nth, over, cl, eI, eP, eT, List.map, List.append, List.drop, List.take]
  refine K.seq_new (K.buildSlice (bs2 _ _)) rfl ?_
  intro b13
  try dsimp only [setd, setn, ev, nth, over, cl, eI, eP, eT, List.map, List.append, List.drop, List.take]
  refine K.seq_call (K.call_g cal_59 (fun F w hF hw => c52_2 hw (hF _ (K.m0)))) rfl ?_
  try dsimp only [setd, setn, ev, nth, over, cl, eI, eP, eT, List.map, List.append, List.drop, List.take]
  refine K.seq_pure (K.assign) rfl ?_
  dsimp only [setd, setn, ev, nth]
  refine K.seq_nil ?_
  refine K.norm_then ?_
  refine K.cond rfl (fun ht4 => ?_) (fun ht4 => ?_)
  · try replace ht4 := of_decide_eq_true ht4
    refine K.seq ?_
    refine K.region_lit ?_
    refine K.seq_pure (K.assign) rfl ?_
    dsimp only [setd, setn, ev, nth]
    refine K.seq_nil ?_
    refine K.norm_then ?_
    refine K.ret ?_
    refine K.ret_block ?_
    refine K.ret_then ?_
    refine K.end_ret (fun w _ => K.res_tmp rfl w) ?_
    exact K.gives_i rfl (by unfold roadE; rw [if_neg ht4])
  try replace ht4 := of_decide_eq_false ht4
  refine K.seq ?_
  refine K.region_lit ?_
  refine K.seq_pure (K.fieldAddr_lit fo_124_0 rfl) rfl ?_
  dsimp only [setd, setn, ev, nth]
  refine K.seq_sil (K.load1_own one_3 rfl (K.m1) rfl) rfl ?_
  try dsimp only [setd, setn, ev, nth, over, cl, eI, eP, eT, List.map, List.append, List.drop, List.take]
  refine K.seq_pure (K.fieldAddr_lit fo_124_1 rfl) rfl ?_
  dsimp only [setd, setn, ev, nth]
  refine K.seq_sil (K.load1_own one_3 rfl (K.m1) rfl) rfl ?_
  try dsimp only [setd, setn, ev, nth, over, cl, eI, eP, eT, List.map, List.append, List.drop, List.take]
  refine K.seq_pure (K.eql rfl rfl) rfl ?_
  dsimp only [setd, setn, ev, nth]
  refine K.seq_pure (K.assign) rfl ?_
  dsimp only [setd, setn, ev, nth]
  refine K.seq_nil ?_
  refine K.norm_then ?_
  refine K.cond rfl (fun ht15 => ?_) (fun ht15 => ?_)
  · try replace ht15 := of_decide_eq_true ht15
    refine K.seq ?_
    refine K.region_lit ?_
    refine K.seq_pure (K.assign) rfl ?_
    dsimp only [setd, setn, ev, nth]
    refine K.seq_nil ?_
    refine K.norm_then ?_
    refine K.ret ?_
    refine K.ret_block ?_
    refine K.ret_then ?_
    refine K.end_ret (fun w _ => K.res_tmp rfl w) ?_
    exact K.gives_i rfl (by unfold roadE; rw [if_pos (by omega), if_pos (by omega)])
  try replace ht15 := of_decide_eq_false ht15
  refine K.skip ?_
  refine K.norm_block ?_
  refine K.norm_then ?_
  refine K.seq ?_
  refine K.region_lit ?_
  refine K.seq_pure (K.assign) rfl ?_
  dsimp only [setd, setn, ev, nth]
  refine K.seq_nil ?_
  refine K.norm_then ?_
  refine K.ret ?_
  refine K.end_ret (fun w _ => K.res_tmp rfl w) ?_
  exact K.gives_i rfl (by unfold roadE; rw [if_pos (by omega), if_neg (by omega)])

set_option maxRecDepth 100000 in
theorem c15 {kind base most : Int} {A B : Option Addr} {c d : Nat} {hs : List Int} {rs : List (Int × Int)} {w : World} (hH : K.Rd w A 1 K.eI hs) (hR : K.Rd w B 2 K.eP rs) (hn : hs.length ≤ 4611686018427387904) (hm : rs.length ≤ 4611686018427387904) :
    Calls Try.prog 66 [.agg #[.int .i64 kind, .int .i64 base, .int .i64 most, .slice A hs.length c, .slice B rs.length d]].toArray w (K.Gives (K.tup3 (chk kind base most hs rs)) w) := by
  refine K.enter (args := [.agg #[.int .i64 kind, .int .i64 base, .int .i64 most, .slice A hs.length c, .slice B rs.length d]]) Try.func66 rfl (n := 54) rfl ?_
  simp only [List.replicate, List.cons_append, List.nil_append]
  refine K.seq ?_
  refine K.region_lit ?_
  refine K.seq_new (K.box) rfl ?_
  intro b1
  try dsimp only [setd, setn, ev, nth, over, cl, eI, eP, eT, List.map, List.append, List.drop, List.take]
  refine K.seq_pure (K.assign) rfl ?_
  dsimp only [setd, setn, ev, nth]
  refine K.seq_pure (K.assign) rfl ?_
  dsimp only [setd, setn, ev, nth]
  refine K.seq_pure (K.assign) rfl ?_
  dsimp only [setd, setn, ev, nth]
  refine K.seq_nil ?_
  refine K.norm_then ?_
  refine K.seq ?_
  refine K.block ?_
  refine K.seq ?_
  refine K.region_lit ?_
  refine K.seq_pure (K.fieldAddr_lit fo_41_0 rfl) rfl ?_
  dsimp only [setd, setn, ev, nth]
  refine K.seq_sil (K.load1_own one_3 rfl (K.m0) rfl) rfl ?_
  try dsimp only [setd, setn, ev, nth, over, cl, eI, eP, eT, List.map, List.append, List.drop, List.take]
  refine K.seq_new (K.buildSlice (bs1 _)) rfl ?_
  intro b8
  try dsimp only [setd, setn, ev, nth, over, cl, eI, eP, eT, List.map, List.append, List.drop, List.take]
  refine K.seq_call (K.call_g cal_59 (fun F w hF hw => c52_1 hw (hF _ (K.m0)))) rfl ?_
  try dsimp only [setd, setn, ev, nth, over, cl, eI, eP, eT, List.map, List.append, List.drop, List.take]
  refine K.seq_pure (K.assign) rfl ?_
  dsimp only [setd, setn, ev, nth]
  refine K.seq_nil ?_
  refine K.norm_then ?_
  refine K.cond rfl (fun ht5 => ?_) (fun ht5 => ?_)
  · try replace ht5 := of_decide_eq_true ht5
    refine K.seq ?_
    refine K.region_lit ?_
    refine K.seq_pure (K.assign) rfl ?_
    dsimp only [setd, setn, ev, nth]
    refine K.seq_pure (K.assign) rfl ?_
    dsimp only [setd, setn, ev, nth]
    refine K.seq_pure (K.assign) rfl ?_
    dsimp only [setd, setn, ev, nth]
    refine K.seq_nil ?_
    refine K.norm_then ?_
    refine K.ret ?_
    refine K.ret_block ?_
    refine K.ret_then ?_
    refine K.end_ret (fun w _ => K.res_ttt rfl w) ?_
    exact K.gives (by rw [chk_1 ht5]; rfl)
  try replace ht5 := of_decide_eq_false ht5
  refine K.seq ?_
  refine K.region_lit ?_
  refine K.seq_pure (K.fieldAddr_lit fo_41_1 rfl) rfl ?_
  dsimp only [setd, setn, ev, nth]
  refine K.seq_sil (K.load1_own one_3 rfl (K.m1) rfl) rfl ?_
  try dsimp only [setd, setn, ev, nth, over, cl, eI, eP, eT, List.map, List.append, List.drop, List.take]
  refine K.seq_new (K.buildSlice (bs1 _)) rfl ?_
  intro b13
  try dsimp only [setd, setn, ev, nth, over, cl, eI, eP, eT, List.map, List.append, List.drop, List.take]
  refine K.seq_call (K.call_g cal_59 (fun F w hF hw => c52_1 hw (hF _ (K.m0)))) rfl ?_
  try dsimp only [setd, setn, ev, nth, over, cl, eI, eP, eT, List.map, List.append, List.drop, List.take]
  refine K.seq_pure (K.move) rfl ?_
  dsimp only [setd, setn, ev, nth]
  refine K.split 15 rfl (fun hg15 => ?_) (fun hg15 => ?_)
  · try replace hg15 := of_decide_eq_true hg15
    refine K.seq_skip ?_ ?_
    · rfl
    try dsimp only [setd, setn, ev, nth, over, cl, eI, eP, eT, List.map, List.append, List.drop, List.take]
    refine K.seq_skip ?_ ?_
    · rfl
    try dsimp only [setd, setn, ev, nth, over, cl, eI, eP, eT, List.map, List.append, List.drop, List.take]
    refine K.seq_skip ?_ ?_
    · rfl
    try dsimp only [setd, setn, ev, nth, over, cl, eI, eP, eT, List.map, List.append, List.drop, List.take]
    refine K.seq_skip ?_ ?_
    · rfl
    try dsimp only [setd, setn, ev, nth, over, cl, eI, eP, eT, List.map, List.append, List.drop, List.take]
    refine K.seq_pure (K.pick_t rfl) rfl ?_
    dsimp only [setd, setn, ev, nth]
    refine K.seq_pure (K.assign) rfl ?_
    dsimp only [setd, setn, ev, nth]
    refine K.seq_nil ?_
    refine K.norm_then ?_
    refine K.cond_true rfl ?_
    refine K.seq ?_
    refine K.region_lit ?_
    refine K.seq_pure (K.assign) rfl ?_
    dsimp only [setd, setn, ev, nth]
    refine K.seq_pure (K.assign) rfl ?_
    dsimp only [setd, setn, ev, nth]
    refine K.seq_pure (K.assign) rfl ?_
    dsimp only [setd, setn, ev, nth]
    refine K.seq_nil ?_
    refine K.norm_then ?_
    refine K.ret ?_
    refine K.ret_block ?_
    refine K.ret_then ?_
    refine K.end_ret (fun w _ => K.res_ttt rfl w) ?_
    exact K.gives (by rw [chk_2 (by omega) (by omega)]; rfl)
  try replace hg15 := of_decide_eq_false hg15
  refine K.seq_pure (K.fieldAddr_lit fo_41_2 rfl) rfl ?_
  dsimp only [setd, setn, ev, nth]
  refine K.seq_sil (K.load1_own one_3 rfl (K.m2) rfl) rfl ?_
  try dsimp only [setd, setn, ev, nth, over, cl, eI, eP, eT, List.map, List.append, List.drop, List.take]
  refine K.seq_new (K.buildSlice (bs1 _)) rfl ?_
  intro b18
  try dsimp only [setd, setn, ev, nth, over, cl, eI, eP, eT, List.map, List.append, List.drop, List.take]
  refine K.seq_call (K.call_g cal_59 (fun F w hF hw => c52_1 hw (hF _ (K.m0)))) rfl ?_
  try dsimp only [setd, setn, ev, nth, over, cl, eI, eP, eT, List.map, List.append, List.drop, List.take]
  refine K.seq_pure (K.pick_f rfl) rfl ?_
  dsimp only [setd, setn, ev, nth]
  refine K.seq_pure (K.assign) rfl ?_
  dsimp only [setd, setn, ev, nth]
  refine K.seq_nil ?_
  refine K.norm_then ?_
  refine K.cond rfl (fun ht10 => ?_) (fun ht10 => ?_)
  · try replace ht10 := of_decide_eq_true ht10
    refine K.seq ?_
    refine K.region_lit ?_
    refine K.seq_pure (K.assign) rfl ?_
    dsimp only [setd, setn, ev, nth]
    refine K.seq_pure (K.assign) rfl ?_
    dsimp only [setd, setn, ev, nth]
    refine K.seq_pure (K.assign) rfl ?_
    dsimp only [setd, setn, ev, nth]
    refine K.seq_nil ?_
    refine K.norm_then ?_
    refine K.ret ?_
    refine K.ret_block ?_
    refine K.ret_then ?_
    refine K.end_ret (fun w _ => K.res_ttt rfl w) ?_
    exact K.gives (by rw [chk_2 (by omega) (by omega)]; rfl)
  try replace ht10 := of_decide_eq_false ht10
  refine K.seq ?_
  refine K.region_lit ?_
  refine K.seq_pure (K.fieldAddr_lit fo_41_3 rfl) rfl ?_
  dsimp only [setd, setn, ev, nth]
  refine K.seq_sil (K.load1_own one_31 rfl (K.m3) rfl) rfl ?_
  try dsimp only [setd, setn, ev, nth, over, cl, eI, eP, eT, List.map, List.append, List.drop, List.take]
  refine K.seq_pure (K.len_sl sl_31 rfl) rfl ?_
  dsimp only [setd, setn, ev, nth]
  refine K.seq_new (K.buildSlice (bs1 _)) rfl ?_
  intro b25
  try dsimp only [setd, setn, ev, nth, over, cl, eI, eP, eT, List.map, List.append, List.drop, List.take]
  refine K.seq_call (K.call_g cal_59 (fun F w hF hw => c52_1 hw (hF _ (K.m0)))) rfl ?_
  try dsimp only [setd, setn, ev, nth, over, cl, eI, eP, eT, List.map, List.append, List.drop, List.take]
  refine K.seq_pure (K.move) rfl ?_
  dsimp only [setd, setn, ev, nth]
  refine K.split 27 rfl (fun hg27 => ?_) (fun hg27 => ?_)
  · try replace hg27 := of_decide_eq_true hg27
    refine K.seq_skip ?_ ?_
    · rfl
    try dsimp only [setd, setn, ev, nth, over, cl, eI, eP, eT, List.map, List.append, List.drop, List.take]
    refine K.seq_skip ?_ ?_
    · rfl
    try dsimp only [setd, setn, ev, nth, over, cl, eI, eP, eT, List.map, List.append, List.drop, List.take]
    refine K.seq_skip ?_ ?_
    · rfl
    try dsimp only [setd, setn, ev, nth, over, cl, eI, eP, eT, List.map, List.append, List.drop, List.take]
    refine K.seq_skip ?_ ?_
    · rfl
    try dsimp only [setd, setn, ev, nth, over, cl, eI, eP, eT, List.map, List.append, List.drop, List.take]
    refine K.seq_pure (K.pick_t rfl) rfl ?_
    dsimp only [setd, setn, ev, nth]
    refine K.seq_pure (K.assign) rfl ?_
    dsimp only [setd, setn, ev, nth]
    refine K.seq_nil ?_
    refine K.norm_then ?_
    refine K.cond_true rfl ?_
    refine K.seq ?_
    refine K.region_lit ?_
    refine K.seq_pure (K.assign) rfl ?_
    dsimp only [setd, setn, ev, nth]
    refine K.seq_pure (K.assign) rfl ?_
    dsimp only [setd, setn, ev, nth]
    refine K.seq_pure (K.assign) rfl ?_
    dsimp only [setd, setn, ev, nth]
    refine K.seq_nil ?_
    refine K.norm_then ?_
    refine K.ret ?_
    refine K.ret_block ?_
    refine K.ret_then ?_
    refine K.end_ret (fun w _ => K.res_ttt rfl w) ?_
    exact K.gives (by rw [chk_3 (by omega) (by omega) (by omega)]; rfl)
  try replace hg27 := of_decide_eq_false hg27
  refine K.seq_pure (K.fieldAddr_lit fo_41_4 rfl) rfl ?_
  dsimp only [setd, setn, ev, nth]
  refine K.seq_sil (K.load1_own one_39 rfl (K.m4) rfl) rfl ?_
  try dsimp only [setd, setn, ev, nth, over, cl, eI, eP, eT, List.map, List.append, List.drop, List.take]
  refine K.seq_pure (K.len_sl sl_39 rfl) rfl ?_
  dsimp only [setd, setn, ev, nth]
  refine K.seq_pure (K.gtr rfl rfl) rfl ?_
  dsimp only [setd, setn, ev, nth]
  refine K.seq_pure (K.pick_f rfl) rfl ?_
  dsimp only [setd, setn, ev, nth]
  refine K.seq_pure (K.assign) rfl ?_
  dsimp only [setd, setn, ev, nth]
  refine K.seq_nil ?_
  refine K.norm_then ?_
  refine K.cond rfl (fun ht21 => ?_) (fun ht21 => ?_)
  · try replace ht21 := of_decide_eq_true ht21
    refine K.seq ?_
    refine K.region_lit ?_
    refine K.seq_pure (K.assign) rfl ?_
    dsimp only [setd, setn, ev, nth]
    refine K.seq_pure (K.assign) rfl ?_
    dsimp only [setd, setn, ev, nth]
    refine K.seq_pure (K.assign) rfl ?_
    dsimp only [setd, setn, ev, nth]
    refine K.seq_nil ?_
    refine K.norm_then ?_
    refine K.ret ?_
    refine K.ret_block ?_
    refine K.ret_then ?_
    refine K.end_ret (fun w _ => K.res_ttt rfl w) ?_
    exact K.gives (by rw [chk_3 (by omega) (by omega) (by omega)]; rfl)
  try replace ht21 := of_decide_eq_false ht21
  refine K.skip ?_
  refine K.norm_block ?_
  refine K.norm_then ?_
  refine K.seq ?_
  refine K.region_lit ?_
  refine K.seq_pure (K.fieldAddr_lit fo_41_3 rfl) rfl ?_
  dsimp only [setd, setn, ev, nth]
  refine K.seq_sil (K.load1_own one_31 rfl (K.m4) rfl) rfl ?_
  try dsimp only [setd, setn, ev, nth, over, cl, eI, eP, eT, List.map, List.append, List.drop, List.take]
  refine K.seq_pure (K.mkFunc) rfl ?_
  try dsimp only [setd, setn, ev, nth, over, cl, eI, eP, eT, List.map, List.append, List.drop, List.take]
  refine K.seq_call (K.call_g cal_83 (fun F w hF hw => c53 (q := hE base) (cap := [.pointer (some ⟨b1, 0, none⟩)]) (hH.pass hw) hn cal_84 (fun x _ w1 hb => c54 (K.PtrL.pass hw (hF _ (K.m4)) hb)))) rfl ?_
  try dsimp only [setd, setn, ev, nth, over, cl, eI, eP, eT, List.map, List.append, List.drop, List.take]
  refine K.seq_pure (K.move) rfl ?_
  dsimp only [setd, setn, ev, nth]
  refine K.seq_pure (K.extract rfl rfl) rfl ?_
  dsimp only [setd, setn, ev, nth]
  refine K.seq_pure (K.extract rfl rfl) rfl ?_
  dsimp only [setd, setn, ev, nth]
  refine K.seq_pure (K.assign) rfl ?_
  dsimp only [setd, setn, ev, nth]
  refine K.seq_pure (K.assign) rfl ?_
  dsimp only [setd, setn, ev, nth]
  refine K.seq_nil ?_
  refine K.norm_then ?_
  refine K.seq ?_
  refine K.seq ?_
  refine K.region_lit ?_
  refine K.seq_pure (K.move) rfl ?_
  dsimp only [setd, setn, ev, nth]
  refine K.seq_pure (K.neq rfl rfl) rfl ?_
  dsimp only [setd, setn, ev, nth]
  refine K.seq_nil ?_
  refine K.norm_then ?_
  refine K.cond rfl (fun ht41 => ?_) (fun ht41 => ?_)
  · try replace ht41 := of_decide_eq_true ht41
    refine K.seq ?_
    refine K.region_lit ?_
    refine K.seq_pure (K.move) rfl ?_
    dsimp only [setd, setn, ev, nth]
    refine K.seq_pure (K.move) rfl ?_
    dsimp only [setd, setn, ev, nth]
    refine K.seq_pure (K.assign) rfl ?_
    dsimp only [setd, setn, ev, nth]
    refine K.seq_pure (K.assign) rfl ?_
    dsimp only [setd, setn, ev, nth]
    refine K.seq_pure (K.assign) rfl ?_
    dsimp only [setd, setn, ev, nth]
    refine K.seq_nil ?_
    refine K.norm_then ?_
    refine K.ret ?_
    refine K.ret_then ?_
    refine K.end_ret (fun w _ => K.res_ttt rfl w) ?_
    exact K.gives (by rw [chk_4 (by omega) (by omega) (by omega) ht41]; rfl)
  try replace ht41 := of_decide_eq_false ht41
  refine K.skip ?_
  refine K.norm_then ?_
  refine K.seq ?_
  refine K.region_lit ?_
  refine K.seq_pure (K.fieldAddr_lit fo_41_4 rfl) rfl ?_
  dsimp only [setd, setn, ev, nth]
  refine K.seq_sil (K.load1_own one_39 rfl (K.m4) rfl) rfl ?_
  try dsimp only [setd, setn, ev, nth, over, cl, eI, eP, eT, List.map, List.append, List.drop, List.take]
  refine K.seq_pure (K.mkFunc) rfl ?_
  try dsimp only [setd, setn, ev, nth, over, cl, eI, eP, eT, List.map, List.append, List.drop, List.take]
  refine K.seq_call (K.call_g cal_85 (fun F w hF hw => c55 (q := roadE hs.length) (cap := [.pointer (some ⟨b1, 0, none⟩)]) (hR.pass hw) hm cal_86 (fun x _ w1 hb => c56 (K.PtrL.pass hw (hF _ (K.m4)) hb) hn))) rfl ?_
  try dsimp only [setd, setn, ev, nth, over, cl, eI, eP, eT, List.map, List.append, List.drop, List.take]
  refine K.seq_pure (K.move) rfl ?_
  dsimp only [setd, setn, ev, nth]
  refine K.seq_pure (K.extract rfl rfl) rfl ?_
  dsimp only [setd, setn, ev, nth]
  refine K.seq_pure (K.extract rfl rfl) rfl ?_
  dsimp only [setd, setn, ev, nth]
  refine K.seq_pure (K.assign) rfl ?_
  dsimp only [setd, setn, ev, nth]
  refine K.seq_pure (K.assign) rfl ?_
  dsimp only [setd, setn, ev, nth]
  refine K.seq_nil ?_
  refine K.norm_then ?_
  refine K.seq ?_
  refine K.seq ?_
  refine K.region_lit ?_
  refine K.seq_pure (K.move) rfl ?_
  dsimp only [setd, setn, ev, nth]
  refine K.seq_pure (K.neq rfl rfl) rfl ?_
  dsimp only [setd, setn, ev, nth]
  refine K.seq_nil ?_
  refine K.norm_then ?_
  refine K.cond rfl (fun ht52 => ?_) (fun ht52 => ?_)
  · try replace ht52 := of_decide_eq_true ht52
    refine K.seq ?_
    refine K.region_lit ?_
    refine K.seq_pure (K.move) rfl ?_
    dsimp only [setd, setn, ev, nth]
    refine K.seq_pure (K.move) rfl ?_
    dsimp only [setd, setn, ev, nth]
    refine K.seq_pure (K.assign) rfl ?_
    dsimp only [setd, setn, ev, nth]
    refine K.seq_pure (K.assign) rfl ?_
    dsimp only [setd, setn, ev, nth]
    refine K.seq_pure (K.assign) rfl ?_
    dsimp only [setd, setn, ev, nth]
    refine K.seq_nil ?_
    refine K.norm_then ?_
    refine K.ret ?_
    refine K.ret_then ?_
    refine K.end_ret (fun w _ => K.res_ttt rfl w) ?_
    exact K.gives (by rw [chk_5 (by omega) (by omega) (by omega) (by omega) ht52]; rfl)
  try replace ht52 := of_decide_eq_false ht52
  refine K.skip ?_
  refine K.norm_then ?_
  refine K.seq ?_
  refine K.region_lit ?_
  refine K.seq_pure (K.assign) rfl ?_
  dsimp only [setd, setn, ev, nth]
  refine K.seq_pure (K.assign) rfl ?_
  dsimp only [setd, setn, ev, nth]
  refine K.seq_pure (K.assign) rfl ?_
  dsimp only [setd, setn, ev, nth]
  refine K.seq_nil ?_
  refine K.norm_then ?_
  refine K.ret ?_
  refine K.end_ret (fun w _ => K.res_ttt rfl w) ?_
  exact K.gives (by rw [chk_0 (by omega) (by omega) (by omega) (by omega) (by omega)]; rfl)

end Go.Proofs.Ytfbglomliankmaa.Sc
end
section
set_option linter.unusedSimpArgs false
set_option linter.unusedVariables false
namespace Go.Proofs.Ytfbglomliankmaa.Sc
open Go.RowKit Go
open Go.K (setd setn ev nth over cl eI eP eT setM setF)
attribute [local irreducible] K.blk K.row
theorem bs0 : K.Bs Try.prog 31 0 [] 3 [] := fun w => by kernel_rfl

set_option maxRecDepth 100000 in
theorem c98 {a b : Int} (h1 : 1 ≤ a) (h2 : a ≤ 30) (h3 : 1 ≤ b) (h4 : b ≤ 30) (w : World) :
    Calls Try.prog 90 [.int .i64 a, .int .i64 b].toArray w (K.Ret (fun r : Int => decide (r > 1) = cm a b) (fun r => .int .i64 r) (fun _ => []) w) := by
  refine K.enter (args := [.int .i64 a, .int .i64 b]) Try.func90 rfl (n := 24) rfl ?_
  simp only [List.replicate, List.cons_append, List.nil_append]
  refine K.seq ?_
  refine K.region_lit ?_
  refine K.seq_pure (K.assign) rfl ?_
  dsimp only [setd, setn, ev, nth]
  refine K.seq_nil ?_
  refine K.norm_then ?_
  refine K.seq ?_
  refine K.seq ?_
  refine K.region_lit ?_
  refine K.seq_pure (K.move) rfl ?_
  dsimp only [setd, setn, ev, nth]
  refine K.seq_pure (K.move) rfl ?_
  dsimp only [setd, setn, ev, nth]
  refine K.seq_nil ?_
  refine K.norm_then ?_
  refine K.block ?_
  refine K.loopW [8] [4, 5, 6, 9, 10, 11, 12, 13, 14, 15, 16, 17, 18, 19, 20, 21, 22, 23, 24, 25] (fun vi L => ∃ k : Nat, vi = [.int .i64 (k : Int)] ∧ L = [] ∧ (k : Int) ≤ a ∧ ∀ j : Nat, j < k → ¬ (a % (a - j) = 0 ∧ b % (a - j) = 0)) (fun vi => a.toNat - (intOf (K.nth vi 0)).toNat) ?_ ?_
  · exact ⟨0, rfl, rfl, by omega, fun j hj => absurd hj (Nat.not_lt_zero j)⟩
  intro vi vr L hJ
  obtain ⟨k, rfl, rfl, hka, hall⟩ := hJ
  try dsimp only [setd, setn, ev, nth, over, cl, eI, eP, eT, setM, setF, List.map, List.append, List.drop, List.take]
  refine K.seq ?_
  refine K.region_lit ?_
  refine K.seq_pure (K.lss rfl rfl) rfl ?_
  dsimp only [setd, setn, ev, nth]
  refine K.seq_nil ?_
  refine K.norm_then ?_
  refine K.seq ?_
  refine K.cond rfl (fun ht9 => ?_) (fun ht9 => ?_)
  · try replace ht9 := of_decide_eq_true ht9
    refine K.skip ?_
    refine K.norm_then ?_
    refine K.seq ?_
    refine K.block ?_
    refine K.seq ?_
    refine K.region_lit ?_
    refine K.seq_pure (K.move) rfl ?_
    dsimp only [setd, setn, ev, nth]
    refine K.seq_pure (K.assign) rfl ?_
    dsimp only [setd, setn, ev, nth]
    refine K.seq_nil ?_
    refine K.norm_then ?_
    refine K.seq ?_
    refine K.region_lit ?_
    refine K.seq_pure (K.move) rfl ?_
    dsimp only [setd, setn, ev, nth]
    refine K.seq_pure (K.move) rfl ?_
    dsimp only [setd, setn, ev, nth]
    refine K.seq_pure (K.sub_i64 rfl rfl (by omega)) rfl ?_
    dsimp only [setd, setn, ev, nth]
    refine K.seq_pure (K.assign) rfl ?_
    dsimp only [setd, setn, ev, nth]
    refine K.seq_nil ?_
    refine K.norm_then ?_
    refine K.seq ?_
    refine K.region_lit ?_
    refine K.seq_pure (K.move) rfl ?_
    dsimp only [setd, setn, ev, nth]
    refine K.seq_pure (K.move) rfl ?_
    dsimp only [setd, setn, ev, nth]
    refine K.seq_pure (K.rem_i64 rfl rfl (by omega) (by omega)) rfl ?_
    dsimp only [setd, setn, ev, nth]
    refine K.seq_pure (K.eql rfl rfl) rfl ?_
    dsimp only [setd, setn, ev, nth]
    refine K.seq_pure (K.move) rfl ?_
    dsimp only [setd, setn, ev, nth]
    refine K.split 18 rfl (fun hg18 => ?_) (fun hg18 => ?_)
    · try replace hg18 := of_decide_eq_true hg18
      refine K.seq_pure (K.move) rfl ?_
      dsimp only [setd, setn, ev, nth]
      refine K.seq_pure (K.move) rfl ?_
      dsimp only [setd, setn, ev, nth]
      refine K.seq_pure (K.rem_i64 rfl rfl (by omega) (by omega)) rfl ?_
      dsimp only [setd, setn, ev, nth]
      refine K.seq_pure (K.eql rfl rfl) rfl ?_
      dsimp only [setd, setn, ev, nth]
      refine K.seq_pure (K.pick_t rfl) rfl ?_
      dsimp only [setd, setn, ev, nth]
      refine K.seq_nil ?_
      refine K.norm_then ?_
      refine K.cond rfl (fun ht23 => ?_) (fun ht23 => ?_)
      · try replace ht23 := of_decide_eq_true ht23
        refine K.seq ?_
        refine K.region_lit ?_
        refine K.seq_pure (K.move) rfl ?_
        dsimp only [setd, setn, ev, nth]
        refine K.seq_pure (K.assign) rfl ?_
        dsimp only [setd, setn, ev, nth]
        refine K.seq_nil ?_
        refine K.norm_then ?_
        refine K.ret ?_
        refine K.ret_block ?_
        refine K.ret_then ?_
        refine K.ret_then ?_
        refine K.ret_block ?_
        refine K.ret_then ?_
        refine K.end_ret (fun w _ => K.res_tmp rfl w) ?_
        exact K.rets (a - (k : Int)) (dvs_found h1 h2 (by omega) hall hg18 ht23) rfl (List.nil_sublist _)
      try replace ht23 := of_decide_eq_false ht23
      have hz : ¬ (a % (a - (k : Int)) = 0 ∧ b % (a - (k : Int)) = 0) := by omega
      refine K.skip ?_
      refine K.norm_block ?_
      refine K.norm_then ?_
      refine K.region_lit ?_
      refine K.seq_pure (K.add_i64 rfl rfl (by omega)) rfl ?_
      dsimp only [setd, setn, ev, nth]
      refine K.seq_pure (K.move) rfl ?_
      dsimp only [setd, setn, ev, nth]
      refine K.seq_nil ?_
      exact K.round_endW (L'' := []) [.int .i64 ((k : Int) + 1)] ⟨k + 1, rfl, rfl, by omega, K.lt_succ_case hall hz⟩ (by simp [K.nth, intOf]; omega) (List.nil_sublist _) (by kernel_rfl)
    try replace hg18 := of_decide_eq_false hg18
    have hz : ¬ (a % (a - (k : Int)) = 0 ∧ b % (a - (k : Int)) = 0) := by omega
    refine K.seq_skip ?_ ?_
    · rfl
    try dsimp only [setd, setn, ev, nth, over, cl, eI, eP, eT, List.map, List.append, List.drop, List.take]
    refine K.seq_skip ?_ ?_
    · rfl
    try dsimp only [setd, setn, ev, nth, over, cl, eI, eP, eT, List.map, List.append, List.drop, List.take]
    refine K.seq_skip ?_ ?_
    · rfl
    try dsimp only [setd, setn, ev, nth, over, cl, eI, eP, eT, List.map, List.append, List.drop, List.take]
    refine K.seq_skip ?_ ?_
    · rfl
    try dsimp only [setd, setn, ev, nth, over, cl, eI, eP, eT, List.map, List.append, List.drop, List.take]
    refine K.seq_pure (K.pick_f rfl) rfl ?_
    dsimp only [setd, setn, ev, nth]
    refine K.seq_nil ?_
    refine K.norm_then ?_
    refine K.cond_false rfl ?_
    refine K.skip ?_
    refine K.norm_block ?_
    refine K.norm_then ?_
    refine K.region_lit ?_
    refine K.seq_pure (K.add_i64 rfl rfl (by omega)) rfl ?_
    dsimp only [setd, setn, ev, nth]
    refine K.seq_pure (K.move) rfl ?_
    dsimp only [setd, setn, ev, nth]
    refine K.seq_nil ?_
    exact K.round_endW (L'' := []) [.int .i64 ((k : Int) + 1)] ⟨k + 1, rfl, rfl, by omega, K.lt_succ_case hall hz⟩ (by simp [K.nth, intOf]; omega) (List.nil_sublist _) (by kernel_rfl)
  try replace ht9 := of_decide_eq_false ht9
  refine K.exit ?_
  refine K.exit_then ?_
  refine K.exit_then ?_
  refine K.exit_here ?_
  refine K.norm_then ?_
  refine K.seq ?_
  refine K.region_lit ?_
  refine K.seq_pure (K.assign) rfl ?_
  dsimp only [setd, setn, ev, nth]
  refine K.seq_nil ?_
  refine K.norm_then ?_
  refine K.ret ?_
  refine K.end_ret (fun w _ => K.res_tmp rfl w) ?_
  exact K.rets 1 (dvs_none h1 h2 (fun j hj => hall j (by omega))) rfl (List.nil_sublist _)

set_option maxRecDepth 100000 in
theorem c86 {u d : Int} (w : World) :
    Calls Try.prog 71 [.agg #[.int .i64 u, .int .i64 d]].toArray w (K.Gives (.int .i64 (scE u d)) w) := by
  refine K.enter (args := [.agg #[.int .i64 u, .int .i64 d]]) Try.func71 rfl (n := 16) rfl ?_
  simp only [List.replicate, List.cons_append, List.nil_append]
  refine K.seq ?_
  refine K.region_lit ?_
  refine K.seq_new (K.box) rfl ?_
  intro b1
  try dsimp only [setd, setn, ev, nth, over, cl, eI, eP, eT, List.map, List.append, List.drop, List.take]
  refine K.seq_pure (K.assign) rfl ?_
  dsimp only [setd, setn, ev, nth]
  refine K.seq_nil ?_
  refine K.norm_then ?_
  refine K.seq ?_
  refine K.block ?_
  refine K.seq ?_
  refine K.region_lit ?_
  refine K.seq_pure (K.fieldAddr_lit fo_36_0 rfl) rfl ?_
  dsimp only [setd, setn, ev, nth]
  refine K.seq_sil (K.load1_own one_3 rfl (K.m0) rfl) rfl ?_
  try dsimp only [setd, setn, ev, nth, over, cl, eI, eP, eT, List.map, List.append, List.drop, List.take]
  refine K.seq_pure (K.fieldAddr_lit fo_36_1 rfl) rfl ?_
  dsimp only [setd, setn, ev, nth]
  refine K.seq_sil (K.load1_own one_3 rfl (K.m0) rfl) rfl ?_
  try dsimp only [setd, setn, ev, nth, over, cl, eI, eP, eT, List.map, List.append, List.drop, List.take]
  refine K.seq_new (K.buildSlice (bs2 _ _)) rfl ?_
  intro b8
  try dsimp only [setd, setn, ev, nth, over, cl, eI, eP, eT, List.map, List.append, List.drop, List.take]
  refine K.seq_call (K.call_g cal_59 (fun F w hF hw => c52_2 hw (hF _ (K.m0)))) rfl ?_
  try dsimp only [setd, setn, ev, nth, over, cl, eI, eP, eT, List.map, List.append, List.drop, List.take]
  refine K.seq_pure (K.assign) rfl ?_
  dsimp only [setd, setn, ev, nth]
  refine K.seq_nil ?_
  refine K.norm_then ?_
  refine K.cond rfl (fun ht3 => ?_) (fun ht3 => ?_)
  · try replace ht3 := of_decide_eq_true ht3
    refine K.seq ?_
    refine K.region_lit ?_
    refine K.seq_pure (K.assign) rfl ?_
    dsimp only [setd, setn, ev, nth]
    refine K.seq_nil ?_
    refine K.norm_then ?_
    refine K.ret ?_
    refine K.ret_block ?_
    refine K.ret_then ?_
    refine K.end_ret (fun w _ => K.res_tmp rfl w) ?_
    exact K.gives_i rfl (by unfold scE; rw [if_neg (by omega)])
  try replace ht3 := of_decide_eq_false ht3
  refine K.seq ?_
  refine K.region_lit ?_
  refine K.seq_pure (K.fieldAddr_lit fo_36_0 rfl) rfl ?_
  dsimp only [setd, setn, ev, nth]
  refine K.seq_sil (K.load1_own one_3 rfl (K.m1) rfl) rfl ?_
  try dsimp only [setd, setn, ev, nth, over, cl, eI, eP, eT, List.map, List.append, List.drop, List.take]
  refine K.seq_pure (K.fieldAddr_lit fo_36_1 rfl) rfl ?_
  dsimp only [setd, setn, ev, nth]
  refine K.seq_sil (K.load1_own one_3 rfl (K.m1) rfl) rfl ?_
  try dsimp only [setd, setn, ev, nth, over, cl, eI, eP, eT, List.map, List.append, List.drop, List.take]
  refine K.seq_loud (K.call_f cal_90 (fun F w hF hw => c98 (by omega) (by omega) (by omega) (by omega) w)) rfl ?_
  rintro r hr
  try dsimp only [setd, setn, ev, nth, over, cl, eI, eP, eT, List.map, List.append, List.drop, List.take]
  refine K.seq_pure (K.gtr rfl rfl) rfl ?_
  dsimp only [setd, setn, ev, nth]
  refine K.seq_pure (K.assign) rfl ?_
  dsimp only [setd, setn, ev, nth]
  refine K.seq_nil ?_
  refine K.norm_then ?_
  refine K.cond rfl (fun ht10 => ?_) (fun ht10 => ?_)
  · try replace ht10 := of_decide_eq_true ht10
    refine K.seq ?_
    refine K.region_lit ?_
    refine K.seq_pure (K.assign) rfl ?_
    dsimp only [setd, setn, ev, nth]
    refine K.seq_nil ?_
    refine K.norm_then ?_
    refine K.ret ?_
    refine K.ret_block ?_
    refine K.ret_then ?_
    refine K.end_ret (fun w _ => K.res_tmp rfl w) ?_
    exact K.gives_i rfl (by unfold scE; rw [if_pos (by omega), ← hr, if_pos (by simpa using ht10)])
  try replace ht10 := of_decide_eq_false ht10
  refine K.skip ?_
  refine K.norm_block ?_
  refine K.norm_then ?_
  refine K.seq ?_
  refine K.region_lit ?_
  refine K.seq_pure (K.assign) rfl ?_
  dsimp only [setd, setn, ev, nth]
  refine K.seq_nil ?_
  refine K.norm_then ?_
  refine K.ret ?_
  refine K.end_ret (fun w _ => K.res_tmp rfl w) ?_
  exact K.gives_i rfl (by unfold scE; rw [if_pos (by omega), ← hr, if_neg (by simpa using ht10)])

end Go.Proofs.Ytfbglomliankmaa.Sc
end
section
set_option linter.unusedSimpArgs false
set_option linter.unusedVariables false
namespace Go.Proofs.Ytfbglomliankmaa.Sc
open Go.RowKit Go
open Go.K (setd setn ev nth over cl eI eP eT setM setF)
attribute [local irreducible] K.blk K.row
theorem bl97 (a b c s t f : Value) : K.Bl Try.prog 94 [(0, .agg #[a, b, c, s, t]), (1, .agg #[f])] (.agg #[a, b, c, s, t, f]) := fun w => by kernel_rfl
theorem bl27z : K.Bl Try.prog 36 [] (.agg #[.int .i64 0, .int .i64 0]) := fun w => by kernel_rfl
theorem s2_27 : K.eq2 Try.prog 36 = true := by kernel_rfl
theorem bs27 (a b : Int) : K.Bs Try.prog 78 1 [(0, .agg #[.int .i64 a, .int .i64 b])] 36 [.int .i64 a, .int .i64 b] := fun w => by kernel_rfl
theorem bs27_2 (a b a2 b2 : Int) : K.Bs Try.prog 78 2 [(0, .agg #[.int .i64 a, .int .i64 b]), (1, .agg #[.int .i64 a2, .int .i64 b2])] 36 [.int .i64 a, .int .i64 b, .int .i64 a2, .int .i64 b2] := fun w => by kernel_rfl
theorem cal_r {kind : Int} (hk : 1 ≤ kind ∧ kind ≤ 3) : K.callable Try.prog (90 + kind.toNat) = true := by
  rcases (show kind = 1 ∨ kind = 2 ∨ kind = 3 by omega) with h | h | h <;> subst h
  · exact cal_91
  · exact cal_92
  · exact cal_93
theorem cRound {kind h u v : Int} (hk : 1 ≤ kind ∧ kind ≤ 3) (h0 : 0 ≤ h) (h9 : h ≤ 9000) (hp : Parts u v) (w : World) : Calls Try.prog (90 + kind.toNat) [.int .i64 (h * u), .int .i64 v].toArray w (K.Gives (.int .i64 (cutS kind h u v)) w) := by
  have hm := mul_bd h0 h9 (show 0 ≤ u by omega) (show u ≤ 30 by omega)
  rw [← rnd_cut hk (by omega)]
  rcases (show kind = 1 ∨ kind = 2 ∨ kind = 3 by omega) with h | h | h <;> subst h
  · exact c99 hm.1 (by omega) (by omega) (by omega) w
  · exact c100 hm.1 (by omega) (by omega) (by omega) w
  · exact c101 hm.1 (by omega) (by omega) (by omega) w

set_option maxRecDepth 100000 in
theorem c87 (w : World) :
    Calls Try.prog 72 [].toArray w (K.Gives (.agg #[.func (.func 91) #[] #[], .func (.func 92) #[] #[], .func (.func 93) #[] #[]]) w) := by
  refine K.enter (args := []) Try.func72 rfl (n := 8) rfl ?_
  simp only [List.replicate, List.cons_append, List.nil_append]
  refine K.seq ?_
  refine K.region_lit ?_
  refine K.seq_new (K.alloc zr_141) rfl ?_
  intro b0
  try dsimp only [setd, setn, ev, nth, over, cl, eI, eP, eT, List.map, List.append, List.drop, List.take]
  refine K.seq_nil ?_
  refine K.norm_then ?_
  refine K.seq ?_
  refine K.region_lit ?_
  refine K.seq_pure (K.indexAddr_ar ar_141 rfl rfl (by omega) (by omega)) rfl ?_
  try dsimp only [setd, setn, ev, nth, over, cl, eI, eP, eT, List.map, List.append, List.drop, List.take]
  refine K.seq_pure (K.fieldAddr_lit fo_92_0 rfl) rfl ?_
  dsimp only [setd, setn, ev, nth]
  refine K.seq_st (K.store sz_90 rfl rfl rfl rfl (K.rp0)) rfl ?_
  try dsimp only [setd, setn, ev, nth, over, cl, eI, eP, eT, List.map, List.append, List.drop, List.take]
  refine K.seq_nil ?_
  refine K.norm_then ?_
  refine K.seq ?_
  refine K.region_lit ?_
  refine K.seq_pure (K.indexAddr_ar ar_141 rfl rfl (by omega) (by omega)) rfl ?_
  try dsimp only [setd, setn, ev, nth, over, cl, eI, eP, eT, List.map, List.append, List.drop, List.take]
  refine K.seq_pure (K.fieldAddr_lit fo_92_0 rfl) rfl ?_
  dsimp only [setd, setn, ev, nth]
  refine K.seq_st (K.store sz_90 rfl rfl rfl rfl (K.rp0)) rfl ?_
  try dsimp only [setd, setn, ev, nth, over, cl, eI, eP, eT, List.map, List.append, List.drop, List.take]
  refine K.seq_nil ?_
  refine K.norm_then ?_
  refine K.seq ?_
  refine K.region_lit ?_
  refine K.seq_pure (K.indexAddr_ar ar_141 rfl rfl (by omega) (by omega)) rfl ?_
  try dsimp only [setd, setn, ev, nth, over, cl, eI, eP, eT, List.map, List.append, List.drop, List.take]
  refine K.seq_pure (K.fieldAddr_lit fo_92_0 rfl) rfl ?_
  dsimp only [setd, setn, ev, nth]
  refine K.seq_st (K.store sz_90 rfl rfl rfl rfl (K.rp0)) rfl ?_
  try dsimp only [setd, setn, ev, nth, over, cl, eI, eP, eT, List.map, List.append, List.drop, List.take]
  refine K.seq_nil ?_
  refine K.norm_then ?_
  refine K.seq ?_
  refine K.region_lit ?_
  refine K.seq_sil (K.loadA_own ag_141 rfl (K.m0) rfl) rfl ?_
  try dsimp only [setd, setn, ev, nth, over, cl, eI, eP, eT, List.map, List.append, List.drop, List.take]
  refine K.seq_st (K.store_all sz_141 rfl rfl rfl rfl (K.rp0)) rfl ?_
  try dsimp only [setd, setn, ev, nth, over, cl, eI, eP, eT, List.map, List.append, List.drop, List.take]
  refine K.seq_nil ?_
  refine K.norm_then ?_
  refine K.ret ?_
  refine K.end_ret (fun w hw => K.res_c rfl rfl (K.run_cellA ag_141 rfl (K.m0) rfl w hw)) ?_
  exact K.gives rfl

set_option maxRecDepth 100000 in
theorem e58 {kind base most : Int} {A B : Option Addr} {c d : Nat} {hs : List Int} {rs : List (Int × Int)} {l : List (Int × Int)} {C : Option Addr} {cc : Nat} {w : World} (hH : K.Rd w A 1 K.eI hs) (hR : K.Rd w B 2 K.eP rs) (hn : hs.length ≤ 4611686018427387904) (hm : rs.length ≤ 4611686018427387904) (he : (chk kind base most hs rs).2.2 ≠ 0) :
    Calls Try.prog 41 [.agg #[.int .i64 kind, .int .i64 base, .int .i64 most, .slice A hs.length c, .slice B rs.length d], .slice C l.length cc].toArray w (K.Gives (.tuple #[.agg #[.int .i64 0, .int .i64 0, .int .i64 0, .slice none 0 0, .slice none 0 0, .nilFunc], .int .i64 (chk kind base most hs rs).2.2]) w) := by
  refine K.enter (args := [.agg #[.int .i64 kind, .int .i64 base, .int .i64 most, .slice A hs.length c, .slice B rs.length d], .slice C l.length cc]) Try.func41 rfl (n := 27) rfl ?_
  simp only [List.replicate, List.cons_append, List.nil_append]
  refine K.seq ?_
  refine K.region_lit ?_
  refine K.seq_new (K.box) rfl ?_
  intro b2
  try dsimp only [setd, setn, ev, nth, over, cl, eI, eP, eT, List.map, List.append, List.drop, List.take]
  refine K.seq_new (K.alloc zr_94) rfl ?_
  intro b4
  try dsimp only [setd, setn, ev, nth, over, cl, eI, eP, eT, List.map, List.append, List.drop, List.take]
  refine K.seq_pure (K.assign) rfl ?_
  dsimp only [setd, setn, ev, nth]
  refine K.seq_nil ?_
  refine K.norm_then ?_
  refine K.seq ?_
  refine K.seq ?_
  refine K.region_lit ?_
  refine K.seq_sil (K.loadA_own ag_41 rfl (K.m1) rfl) rfl ?_
  try dsimp only [setd, setn, ev, nth, over, cl, eI, eP, eT, List.map, List.append, List.drop, List.take]
  refine K.seq_call (K.call_g cal_66 (fun F w hF hw => c15 (hH.pass hw) (hR.pass hw) hn hm)) rfl ?_
  try dsimp only [setd, setn, ev, nth, over, cl, eI, eP, eT, List.map, List.append, List.drop, List.take]
  refine K.seq_pure (K.move) rfl ?_
  dsimp only [setd, setn, ev, nth]
  refine K.seq_pure (K.extract rfl rfl) rfl ?_
  dsimp only [setd, setn, ev, nth]
  refine K.seq_pure (K.extract rfl rfl) rfl ?_
  dsimp only [setd, setn, ev, nth]
  refine K.seq_pure (K.extract rfl rfl) rfl ?_
  dsimp only [setd, setn, ev, nth]
  refine K.seq_pure (K.assign) rfl ?_
  dsimp only [setd, setn, ev, nth]
  refine K.seq_nil ?_
  refine K.norm_then ?_
  refine K.seq ?_
  refine K.region_lit ?_
  refine K.seq_pure (K.move) rfl ?_
  dsimp only [setd, setn, ev, nth]
  refine K.seq_pure (K.neq rfl rfl) rfl ?_
  dsimp only [setd, setn, ev, nth]
  refine K.seq_nil ?_
  refine K.norm_then ?_
  refine K.cond rfl (fun ht13 => ?_) (fun ht13 => ?_)
  · try replace ht13 := of_decide_eq_true ht13
    refine K.seq ?_
    refine K.region_lit ?_
    refine K.seq_sil (K.loadA_own ag_94 rfl (K.m0) rfl) rfl ?_
    try dsimp only [setd, setn, ev, nth, over, cl, eI, eP, eT, List.map, List.append, List.drop, List.take]
    refine K.seq_pure (K.move) rfl ?_
    dsimp only [setd, setn, ev, nth]
    refine K.seq_st (K.store_all sz_94 rfl rfl rfl rfl (K.rp0)) rfl ?_
    try dsimp only [setd, setn, ev, nth, over, cl, eI, eP, eT, List.map, List.append, List.drop, List.take]
    refine K.seq_pure (K.assign) rfl ?_
    dsimp only [setd, setn, ev, nth]
    refine K.seq_nil ?_
    refine K.norm_then ?_
    refine K.ret ?_
    refine K.ret_then ?_
    refine K.end_ret (fun w hw => K.res_ct rfl rfl (K.run_cellA ag_94 rfl (K.m0) rfl w hw)) ?_
    exact K.gives rfl
  try replace ht13 := of_decide_eq_false ht13
  exact absurd he ht13

set_option maxRecDepth 100000 in
theorem c58 {kind base most : Int} {A B : Option Addr} {c d : Nat} {hs : List Int} {rs : List (Int × Int)} {l : List (Int × Int)} {C : Option Addr} {cc : Nat} {w : World} (hH : K.Rd w A 1 K.eI hs) (hR : K.Rd w B 2 K.eP rs) (g : Good kind base most hs rs) (hS : K.Rd w C 2 K.eP l) (hl : l.length ≤ 4611686018427387904) :
    Calls Try.prog 41 [.agg #[.int .i64 kind, .int .i64 base, .int .i64 most, .slice A hs.length c, .slice B rs.length d], .slice C l.length cc].toArray w (K.Gives (.tuple #[.agg #[.int .i64 kind, .int .i64 base, .int .i64 most, .slice A hs.length c, .slice B rs.length d, .func (.func (90 + kind.toNat)) #[] #[]], .int .i64 (scsE l)]) w) := by
  have g1 := g.k
  have g2 := g.n
  have g3 := g.r
  have g4 := g.b
  have g5 := g.m
  refine K.enter (args := [.agg #[.int .i64 kind, .int .i64 base, .int .i64 most, .slice A hs.length c, .slice B rs.length d], .slice C l.length cc]) Try.func41 rfl (n := 27) rfl ?_
  simp only [List.replicate, List.cons_append, List.nil_append]
  refine K.seq ?_
  refine K.region_lit ?_
  refine K.seq_new (K.box) rfl ?_
  intro b2
  try dsimp only [setd, setn, ev, nth, over, cl, eI, eP, eT, List.map, List.append, List.drop, List.take]
  refine K.seq_new (K.alloc zr_94) rfl ?_
  intro b4
  try dsimp only [setd, setn, ev, nth, over, cl, eI, eP, eT, List.map, List.append, List.drop, List.take]
  refine K.seq_pure (K.assign) rfl ?_
  dsimp only [setd, setn, ev, nth]
  refine K.seq_nil ?_
  refine K.norm_then ?_
  refine K.seq ?_
  refine K.seq ?_
  refine K.region_lit ?_
  refine K.seq_sil (K.loadA_own ag_41 rfl (K.m1) rfl) rfl ?_
  try dsimp only [setd, setn, ev, nth, over, cl, eI, eP, eT, List.map, List.append, List.drop, List.take]
  refine K.seq_call (K.call_g cal_66 (fun F w hF hw => c15 (hH.pass hw) (hR.pass hw) (by omega) (by omega))) rfl ?_
  try dsimp only [setd, setn, ev, nth, over, cl, eI, eP, eT, List.map, List.append, List.drop, List.take]
  refine K.seq_pure (K.move) rfl ?_
  dsimp only [setd, setn, ev, nth]
  refine K.seq_pure (K.extract rfl rfl) rfl ?_
  dsimp only [setd, setn, ev, nth]
  refine K.seq_pure (K.extract rfl rfl) rfl ?_
  dsimp only [setd, setn, ev, nth]
  refine K.seq_pure (K.extract rfl rfl) rfl ?_
  dsimp only [setd, setn, ev, nth]
  refine K.seq_pure (K.assign) rfl ?_
  dsimp only [setd, setn, ev, nth]
  refine K.seq_nil ?_
  refine K.norm_then ?_
  refine K.seq ?_
  refine K.region_lit ?_
  refine K.seq_pure (K.move) rfl ?_
  dsimp only [setd, setn, ev, nth]
  refine K.seq_pure (K.neq rfl rfl) rfl ?_
  dsimp only [setd, setn, ev, nth]
  refine K.seq_nil ?_
  refine K.norm_then ?_
  refine K.cond rfl (fun ht13 => ?_) (fun ht13 => ?_)
  · try replace ht13 := of_decide_eq_true ht13
    exact absurd (by rw [g.chk]) ht13
  try replace ht13 := of_decide_eq_false ht13
  refine K.skip ?_
  refine K.norm_then ?_
  refine K.seq ?_
  refine K.region_lit ?_
  refine K.seq_pure (K.move) rfl ?_
  dsimp only [setd, setn, ev, nth]
  refine K.seq_call (K.call_g cal_70 (fun F w hF hw => c85 (q := fun s : Int × Int => scE s.1 s.2) (cap := []) (hS.pass hw) hl cal_71 (fun x _ w1 _ => c86 w1))) rfl ?_
  try dsimp only [setd, setn, ev, nth, over, cl, eI, eP, eT, List.map, List.append, List.drop, List.take]
  refine K.seq_pure (K.move) rfl ?_
  dsimp only [setd, setn, ev, nth]
  refine K.seq_pure (K.extract rfl rfl) rfl ?_
  dsimp only [setd, setn, ev, nth]
  refine K.seq_pure (K.extract rfl rfl) rfl ?_
  dsimp only [setd, setn, ev, nth]
  refine K.seq_pure (K.assign) rfl ?_
  dsimp only [setd, setn, ev, nth]
  refine K.seq_nil ?_
  refine K.norm_then ?_
  refine K.seq ?_
  refine K.draw_L [8] Try_mixed ?_
  refine K.d_mem 0 rfl (K.loadA_own ag_41 rfl (K.m1) rfl) (fun _ h => h) (by kernel_rfl) (by kernel_rfl) rfl ?_
  try dsimp only [setd, setn, ev, nth, over, cl, eI, eP, eT, List.map, List.append, List.drop, List.take]
  refine K.d_pure 2 rfl (K.fieldAddr_lit fo_41_0 rfl) (by kernel_rfl) rfl ?_
  dsimp only [setd, setn, ev, nth]
  refine K.d_mem 3 rfl (K.load1_own one_3 rfl (K.m1) rfl) (fun _ h => h) (by kernel_rfl) (by kernel_rfl) rfl ?_
  try dsimp only [setd, setn, ev, nth, over, cl, eI, eP, eT, List.map, List.append, List.drop, List.take]
  refine K.d_pure 4 rfl (K.sub_i64 rfl rfl (by omega)) (by kernel_rfl) rfl ?_
  dsimp only [setd, setn, ev, nth]
  refine K.d_pure 7 rfl (K.move) (by kernel_rfl) rfl ?_
  dsimp only [setd, setn, ev, nth]
  refine K.d_call 1 rfl (K.call_g cal_72 (fun F w hF hw => c87 w)) (fun _ h => h) (by kernel_rfl) rfl ?_
  try dsimp only [setd, setn, ev, nth, over, cl, eI, eP, eT, List.map, List.append, List.drop, List.take]
  refine K.d_pure 5 rfl (K.Pure.eq (K.index_arA ar_141 ag_92 rfl rfl (by omega) (by omega)) (rnd_ix g.k)) (by kernel_rfl) rfl ?_
  try dsimp only [setd, setn, ev, nth, over, cl, eI, eP, eT, List.map, List.append, List.drop, List.take]
  refine K.d_pure 6 rfl (K.build (bl97 _ _ _ _ _ _)) (by kernel_rfl) rfl ?_
  try dsimp only [setd, setn, ev, nth, over, cl, eI, eP, eT, List.map, List.append, List.drop, List.take]
  refine K.d_last 8 rfl (K.store_all sz_94 rfl rfl rfl rfl (K.rp0)) rfl (by kernel_rfl) rfl ?_
  intro _ _
  try dsimp only [setd, setn, ev, nth, over, cl, eI, eP, eT, List.map, List.append, List.drop, List.take]
  refine K.d_pure 9 rfl (K.assign) (by kernel_rfl) rfl ?_
  dsimp only [setd, setn, ev, nth]
  refine K.d_done (by kernel_rfl) ?_
  refine K.norm_then ?_
  refine K.ret ?_
  refine K.end_ret (fun w hw => K.res_ct rfl rfl (K.run_cellA ag_94 rfl (K.m0) rfl w hw)) ?_
  exact K.gives (by rw [fst_scsE]; rfl)

set_option maxRecDepth 100000 in
theorem c60 {A : Option Addr} {c : Nat} {xs : List Int} {w : World} (hR : K.Rd w A 1 K.eI xs) (hn : xs.length ≤ 1000000) :
    Calls Try.prog 43 [.slice A xs.length c].toArray w (K.RetS 3 1 K.eI xs w) := by
  refine K.enter (args := [.slice A xs.length c]) Try.func43 rfl (n := 7) rfl ?_
  simp only [List.replicate, List.cons_append, List.nil_append]
  refine K.seq ?_
  refine K.region_lit ?_
  refine K.seq_pure (K.assign) rfl ?_
  dsimp only [setd, setn, ev, nth]
  refine K.seq_nil ?_
  refine K.norm_then ?_
  refine K.seq ?_
  refine K.seq ?_
  refine K.region_lit ?_
  refine K.seq_pure (K.move) rfl ?_
  dsimp only [setd, setn, ev, nth]
  refine K.seq_pure (K.eql_slnil sl_31 rfl) rfl ?_
  dsimp only [setd, setn, ev, nth]
  refine K.seq_nil ?_
  refine K.norm_then ?_
  refine K.cond rfl (fun ht4 => ?_) (fun ht4 => ?_)
  · try replace ht4 := of_decide_eq_true ht4
    refine K.seq ?_
    refine K.region_lit ?_
    refine K.seq_pure (K.assign) rfl ?_
    dsimp only [setd, setn, ev, nth]
    refine K.seq_nil ?_
    refine K.norm_then ?_
    refine K.ret ?_
    refine K.ret_then ?_
    refine K.end_ret (fun w _ => K.res_tmp rfl w) ?_
    cases A with
    | some a => cases ht4
    | none => exact K.rets_s0 (K.Rd.isNil hR) rfl
  try replace ht4 := of_decide_eq_false ht4
  refine K.skip ?_
  refine K.norm_then ?_
  refine K.seq ?_
  refine K.region_lit ?_
  refine K.seq_new (K.buildSlice (bs0)) rfl ?_
  intro b5
  try dsimp only [setd, setn, ev, nth, over, cl, eI, eP, eT, List.map, List.append, List.drop, List.take]
  refine K.seq_pure (K.move) rfl ?_
  dsimp only [setd, setn, ev, nth]
  refine K.blk_row0 (size := 1) ?_
  refine K.seq_upd (K.appendS el_31 rfl rfl hR.sl (fun _ => rfl) (K.oneI _) (by omega) (by omega) (fun _ _ => K.rp0)) rfl ?_
  rintro ⟨A7, c7⟩ _
  try dsimp only [setd, setn, ev, nth, over, cl, eI, eP, eT, List.map, List.append, List.drop, List.take]
  refine K.seq_pure (K.assign) rfl ?_
  dsimp only [setd, setn, ev, nth]
  refine K.seq_nil ?_
  refine K.norm_then ?_
  refine K.ret ?_
  refine K.end_ret (fun w _ => K.res_tmp rfl w) ?_
  exact K.rets_s (List.Mem.head _) (by omega) (List.nil_append _) rfl

set_option maxRecDepth 100000 in
theorem c88 {kind base most : Int} {A B : Option Addr} {c d : Nat} {hs : List Int} {rs : List (Int × Int)} {r : Int × Int} {cs : List Int} {w : World} (hH : K.Rd w A 1 K.eI hs) (hr : 0 ≤ r.1 ∧ r.1 < hs.length ∧ 0 ≤ r.2 ∧ r.2 < hs.length) (h8 : hs.length ≤ 8) (hb : Bd 0 9000 hs) (hc : Bd 0 270001 cs) :
    Calls Try.prog 78 [.agg #[.int .i64 kind, .int .i64 base, .int .i64 most, .slice A hs.length c, .slice B rs.length d, .func (.func (90 + kind.toNat)) #[] #[]], .agg #[.int .i64 r.1, .int .i64 r.2], .agg (a8 cs).toArray].toArray w (K.Gives (.tuple #[.int .i64 (riseS hs r), .int .i64 (riseS cs r)]) w) := by
  refine K.enter (args := [.agg #[.int .i64 kind, .int .i64 base, .int .i64 most, .slice A hs.length c, .slice B rs.length d, .func (.func (90 + kind.toNat)) #[] #[]], .agg #[.int .i64 r.1, .int .i64 r.2], .agg (a8 cs).toArray]) Try.func78 rfl (n := 29) rfl ?_
  simp only [List.replicate, List.cons_append, List.nil_append]
  refine K.seq ?_
  refine K.region_lit ?_
  refine K.seq_new (K.box) rfl ?_
  intro b3
  try dsimp only [setd, setn, ev, nth, over, cl, eI, eP, eT, List.map, List.append, List.drop, List.take]
  refine K.seq_new (K.box) rfl ?_
  intro b4
  try dsimp only [setd, setn, ev, nth, over, cl, eI, eP, eT, List.map, List.append, List.drop, List.take]
  refine K.seq_new (K.box) rfl ?_
  intro b5
  try dsimp only [setd, setn, ev, nth, over, cl, eI, eP, eT, List.map, List.append, List.drop, List.take]
  refine K.seq_pure (K.assign) rfl ?_
  dsimp only [setd, setn, ev, nth]
  refine K.seq_pure (K.assign) rfl ?_
  dsimp only [setd, setn, ev, nth]
  refine K.seq_nil ?_
  refine K.norm_then ?_
  refine K.seq ?_
  have q1 := hb r.1.toNat
  have q2 := hb r.2.toNat
  have q3 := hc r.1.toNat
  have q4 := hc r.2.toNat
  refine K.draw_L [] Try_mixed ?_
  refine K.d_pure 0 rfl (K.fieldAddr_lit fo_94_0 rfl) (by kernel_rfl) rfl ?_
  dsimp only [setd, setn, ev, nth]
  refine K.d_pure 1 rfl (K.fieldAddr_lit fo_41_3 rfl) (by kernel_rfl) rfl ?_
  dsimp only [setd, setn, ev, nth]
  refine K.d_mem 2 rfl (K.load1_own one_31 rfl (K.m2) rfl) (fun _ h => h) (by kernel_rfl) (by kernel_rfl) rfl ?_
  try dsimp only [setd, setn, ev, nth, over, cl, eI, eP, eT, List.map, List.append, List.drop, List.take]
  refine K.d_pure 3 rfl (K.fieldAddr_lit fo_124_1 rfl) (by kernel_rfl) rfl ?_
  dsimp only [setd, setn, ev, nth]
  refine K.d_mem 4 rfl (K.load1_own one_3 rfl (K.m1) rfl) (fun _ h => h) (by kernel_rfl) (by kernel_rfl) rfl ?_
  try dsimp only [setd, setn, ev, nth, over, cl, eI, eP, eT, List.map, List.append, List.drop, List.take]
  refine K.d_ix (M := []) 5 r.2.toNat rfl hH.sl sl_31 rfl rfl (by omega) (by omega) (by kernel_rfl) rfl ?_
  intro p13 hp13
  try dsimp only [setd, setn, ev, nth, over, cl, eI, eP, eT, List.map, List.append, List.drop, List.take]
  refine K.d_mem 6 rfl (K.load1 one_3 rfl (hp13.any)) (fun _ h => h) (by kernel_rfl) (by kernel_rfl) rfl ?_
  try dsimp only [setd, setn, ev, nth, over, cl, eI, eP, eT, List.map, List.append, List.drop, List.take]
  refine K.d_pure 7 rfl (K.fieldAddr_lit fo_94_0 rfl) (by kernel_rfl) rfl ?_
  dsimp only [setd, setn, ev, nth]
  refine K.d_pure 8 rfl (K.fieldAddr_lit fo_41_3 rfl) (by kernel_rfl) rfl ?_
  dsimp only [setd, setn, ev, nth]
  refine K.d_mem 9 rfl (K.load1_own one_31 rfl (K.m2) rfl) (fun _ h => h) (by kernel_rfl) (by kernel_rfl) rfl ?_
  try dsimp only [setd, setn, ev, nth, over, cl, eI, eP, eT, List.map, List.append, List.drop, List.take]
  refine K.d_pure 10 rfl (K.fieldAddr_lit fo_124_0 rfl) (by kernel_rfl) rfl ?_
  dsimp only [setd, setn, ev, nth]
  refine K.d_mem 11 rfl (K.load1_own one_3 rfl (K.m1) rfl) (fun _ h => h) (by kernel_rfl) (by kernel_rfl) rfl ?_
  try dsimp only [setd, setn, ev, nth, over, cl, eI, eP, eT, List.map, List.append, List.drop, List.take]
  refine K.d_ix (M := []) 12 r.1.toNat rfl hH.sl sl_31 rfl rfl (by omega) (by omega) (by kernel_rfl) rfl ?_
  intro p20 hp20
  try dsimp only [setd, setn, ev, nth, over, cl, eI, eP, eT, List.map, List.append, List.drop, List.take]
  refine K.d_mem 13 rfl (K.load1 one_3 rfl (hp20.any)) (fun _ h => h) (by kernel_rfl) (by kernel_rfl) rfl ?_
  try dsimp only [setd, setn, ev, nth, over, cl, eI, eP, eT, List.map, List.append, List.drop, List.take]
  refine K.d_pure 14 rfl (K.sub_i64 rfl rfl (by omega)) (by kernel_rfl) rfl ?_
  dsimp only [setd, setn, ev, nth]
  refine K.d_pure 15 rfl (K.fieldAddr_lit fo_124_1 rfl) (by kernel_rfl) rfl ?_
  dsimp only [setd, setn, ev, nth]
  refine K.d_mem 16 rfl (K.load1_own one_3 rfl (K.m1) rfl) (fun _ h => h) (by kernel_rfl) (by kernel_rfl) rfl ?_
  try dsimp only [setd, setn, ev, nth, over, cl, eI, eP, eT, List.map, List.append, List.drop, List.take]
  refine K.d_pure 17 rfl (K.indexAddr_ar ar_98 rfl rfl (by omega) (by omega)) (by kernel_rfl) rfl ?_
  try dsimp only [setd, setn, ev, nth, over, cl, eI, eP, eT, List.map, List.append, List.drop, List.take]
  refine K.d_mem 18 rfl (load8 one_3 rfl (K.m0) (by omega) (by omega)) (fun _ h => h) (by kernel_rfl) (by kernel_rfl) rfl ?_
  try dsimp only [setd, setn, ev, nth, over, cl, eI, eP, eT, List.map, List.append, List.drop, List.take]
  refine K.d_pure 19 rfl (K.fieldAddr_lit fo_124_0 rfl) (by kernel_rfl) rfl ?_
  dsimp only [setd, setn, ev, nth]
  refine K.d_mem 20 rfl (K.load1_own one_3 rfl (K.m1) rfl) (fun _ h => h) (by kernel_rfl) (by kernel_rfl) rfl ?_
  try dsimp only [setd, setn, ev, nth, over, cl, eI, eP, eT, List.map, List.append, List.drop, List.take]
  refine K.d_pure 21 rfl (K.indexAddr_ar ar_98 rfl rfl (by omega) (by omega)) (by kernel_rfl) rfl ?_
  try dsimp only [setd, setn, ev, nth, over, cl, eI, eP, eT, List.map, List.append, List.drop, List.take]
  refine K.d_mem 22 rfl (load8 one_3 rfl (K.m0) (by omega) (by omega)) (fun _ h => h) (by kernel_rfl) (by kernel_rfl) rfl ?_
  try dsimp only [setd, setn, ev, nth, over, cl, eI, eP, eT, List.map, List.append, List.drop, List.take]
  refine K.d_pure 23 rfl (K.sub_i64 rfl rfl (by omega)) (by kernel_rfl) rfl ?_
  dsimp only [setd, setn, ev, nth]
  refine K.d_pure 24 rfl (K.assign) (by kernel_rfl) rfl ?_
  dsimp only [setd, setn, ev, nth]
  refine K.d_pure 25 rfl (K.assign) (by kernel_rfl) rfl ?_
  dsimp only [setd, setn, ev, nth]
  refine K.d_done (by kernel_rfl) ?_
  refine K.norm_then ?_
  refine K.ret ?_
  refine K.end_ret (fun w _ => K.res_tmp2 rfl w) ?_
  exact K.gives rfl

end Go.Proofs.Ytfbglomliankmaa.Sc
end
