/-
  Plain lemmas and plain functions, several texts joined.
  Conditions stand in each theorem.
-/
import Derived.Test.YtoemnobfnnjopaaDoorK8
import Derived.Test.YtoemnobfnnjopaaDoorK2
import Derived.Laws.MakeOwn
set_option linter.unusedSimpArgs false
set_option linter.unusedVariables false
/-
  Ranges over functions that hand on several values at once and keep count in a variable that they hold.
  No conditions: plain lemmas over any program.
-/
namespace Go.R
open Go.RowKit Go.K
/-- Parameters, set in turn. -/
def setP : List Value → List Tmp → List Value → List Value
  | l, p :: ps, v :: vs => setP (setn l p v) ps vs
  | l, _, _ => l
theorem setP_arr : ∀ (l : List Value) (ps : List Tmp) (vs : List Value), (ps.toArray.zip vs.toArray).foldl (fun tmps (t, a) => tmps.setIfInBounds t a) l.toArray = (setP l ps vs).toArray := by
  intro l ps vs
  have h : ∀ (l : List Value) (zs : List (Tmp × Value)), zs.foldl (fun tmps (z : Tmp × Value) => tmps.setIfInBounds z.1 z.2) l.toArray = (zs.foldl (fun l (z : Tmp × Value) => setn l z.1 z.2) l).toArray := by
    intro l zs
    induction zs generalizing l with
    | nil => rfl
    | cons z zs ih => simp only [List.foldl_cons]; rw [← ih]; simp [setn_eq]
  have h2 : ∀ (l : List Value) (ps : List Tmp) (vs : List Value), (ps.zip vs).foldl (fun l (z : Tmp × Value) => setn l z.1 z.2) l = setP l ps vs := by
    intro l ps
    induction ps generalizing l with
    | nil => intro vs; simp [setP]
    | cons p ps ih =>
      intro vs
      cases vs with
      | nil => simp [setP]
      | cons v vs => simp only [List.zip_cons_cons, List.foldl_cons, setP]; exact ih _ _
  rw [← h2, ← h, List.zip_toArray, List.foldl_toArray]
/-- One call of yield. -/
def RoundOK2 {α : Type} (P : Program) (lr : Nat) (enc : α → List Value) (XS : List α) (J Jx : Nat → (Nat → Prop) → World → Prop) : Prop :=
  ∀ k x f w, XS[k]? = some x → J k f w → YieldAt (fen none) 0 P lr (enc x).toArray w fun e w' => ∃ f', Grew f w f' ∧ Kept f w w' ∧ (∀ i, f' i → i < w'.heap.size) ∧ ((e = .returned (.bool true) ∧ J (k + 1) f' w') ∨ (e = .returned (.bool false) ∧ Jx (k + 1) f' w'))
/-- As Below, but for block b. -/
structure BelowX (B b : Nat) (w w' : World) : Prop where
  os : w'.os = w.os
  tape : w'.tape = w.tape
  output : w'.output = w.output
  size : w.heap.size ≤ w'.heap.size
  block : ∀ k, k < B → k ≠ b → w'.heap[k]? = w.heap[k]?
theorem BelowX.of {B b : Nat} {w w' : World} (h : Below B w w') : BelowX B b w w' := ⟨h.os, h.tape, h.output, h.size, fun k hk _ => h.block k hk⟩
theorem BelowX.trans {B b : Nat} {w w' w'' : World} (h : BelowX B b w w') (k : BelowX B b w' w'') : BelowX B b w w'' :=
  ⟨k.os.trans h.os, k.tape.trans h.tape, k.output.trans h.output, Nat.le_trans h.size k.size, fun i hi hn => (k.block i hi hn).trans (h.block i hi hn)⟩
theorem BelowX.mono {B B' b : Nat} {w w' : World} (h : BelowX B b w w') (hB : B' ≤ B) : BelowX B' b w w' := ⟨h.os, h.tape, h.output, h.size, fun k hk hn => h.block k (by omega) hn⟩
theorem BelowX.below {B B' b : Nat} {w w' : World} (h : BelowX B b w w') (hB : B' ≤ B) (hb : B' ≤ b) : Below B' w w' := ⟨h.os, h.tape, h.output, h.size, fun k hk => h.block k (by omega) (by omega)⟩
/-- A caller's state abides what an iterator does that began when the heap's size was B: changes of block b, and of blocks from B on, that are not the state's own. -/
def StaysX (B b : Nat) (J : Nat → (Nat → Prop) → World → Prop) : Prop := ∀ k f w w', J k f w → BelowX B b w w' → (∀ i, f i → w'.heap[i]? = w.heap[i]?) → J k f w'
theorem StaysX.below {B b : Nat} {J : Nat → (Nat → Prop) → World → Prop} (h : StaysX B b J) {k : Nat} {f : Nat → Prop} {w w' : World} (hJ : J k f w) (hf : ∀ i, f i → i < w.heap.size) (hB : B ≤ w.heap.size) (hb : Below w.heap.size w w') : J k f w' :=
  h k f w w' hJ (.of (hb.mono hB)) (fun i hi => hb.block i (hf i hi))
def orb (f : Nat → Prop) (b : Nat) : Nat → Prop := fun i => f i ∨ i = b
theorem Keep.orbs {f f' : Nat → Prop} {w w' : World} {b : Nat} (h : Keep f w f' w') : Keep (orb f b) w (orb f' b) w' := fun i hi hn => by
  have h1 := h i hi (fun h => hn (.inl h))
  exact ⟨fun h => h.elim h1.1 (fun e => hn (.inr e)), h1.2⟩
theorem Keep.off {f : Nat → Prop} {w w' : World} {b : Nat} (h : ∀ i, i ≠ b → w'.heap[i]? = w.heap[i]?) : Keep (orb f b) w (orb f b) w' := fun i _ hn => ⟨hn, h i (fun e => hn (.inr e))⟩
/-- A slice of nobody else's. -/
def OwnR {E : Type} (f : Nat → Prop) (w : World) (A : Option Addr) (size : Nat) (e : E → List Value) (xs : List E) : Prop :=
  ∀ k x, xs[k]? = some x → ∃ a, A = some a ∧ a.block < w.heap.size ∧ ¬ f a.block ∧ ∀ j u, (e x)[j]? = some u → w.cell? ((a.add (k * size)).add j) = some u
theorem OwnR.rd {E : Type} {f : Nat → Prop} {w : World} {A : Option Addr} {size : Nat} {e : E → List Value} {xs : List E} (h : OwnR f w A size e xs) : Rd w A size e xs := fun k x hx => let ⟨a, h1, h2, _, h3⟩ := h k x hx; ⟨a, h1, h2, h3⟩
theorem OwnR.keep {E : Type} {f f' : Nat → Prop} {w w' : World} {A : Option Addr} {size : Nat} {e : E → List Value} {xs : List E} (h : OwnR f w A size e xs) (hk : Keep f w f' w') : OwnR f' w' A size e xs := fun k x hx => by
  obtain ⟨a, h1, h2, h3, h4⟩ := h k x hx
  obtain ⟨a1, a2⟩ := hk _ h2 h3
  refine ⟨a, h1, lt_of_same h2 a2, a1, fun j u hu => ?_⟩
  rw [← h4 j u hu]
  exact World.cell?_of_block (by rw [addr_block, addr_block]; exact a2)
theorem Free.oldR {E : Type} {w0 w : World} {F : List Chunk} {f : Nat → Prop} {A : Option Addr} {size : Nat} {e : E → List Value} {xs : List E} (h : Free w0 F f w) (hR : Rd w0 A size e xs) : OwnR f w A size e xs := fun k x hx => by
  obtain ⟨a, h1, h2, _⟩ := hR k x hx
  obtain ⟨a', h1', h2', h3⟩ := hR.pass h.1 k x hx
  rw [h1] at h1'; cases h1'
  exact ⟨a, h1, h2', h.2.2 _ h2, h3⟩
theorem heap_ptr {w : World} {b : Nat} {t : TypeId} {cs : List Value} (h : w.heap[b]? = some (.cells cs.toArray t (0, 0))) : PtrL w [] ⟨b, 0, none⟩ cs :=
  PtrL.old (lt_of_some h) (fun j u hu => by
    rw [add_lit, Nat.zero_add, blk_cell (t := t) (cs := cs) (show (blk b t cs).holds w from h)]
    exact hu)
/-- The function, with what it holds, hands yield the things of XS in order, until yield returns false; it may change block b. -/
def IterX {α : Type} (P : Program) (g : FuncId) (first cap : List Value) (b : Nat) (pre : (Nat → Prop) → World → Prop) (enc : α → List Value) (XS : List α) : Prop :=
  ∀ (lr B : Nat) (J Jx : Nat → (Nat → Prop) → World → Prop) (f : Nat → Prop) (w : World), B ≤ w.heap.size → b < w.heap.size → StaysX B b J → StaysX B b Jx → (∀ k f w, J k f w → B ≤ w.heap.size) → (∀ k f w, Jx k f w → B ≤ w.heap.size) → (∀ i, f i → i < w.heap.size) → ¬ f b → RoundOK2 P lr enc XS J Jx → J 0 f w → pre f w →
    Calls P g (first ++ [Value.func (.yield lr) #[] #[]] ++ cap).toArray w fun e w' => (∃ v, e = .returned v) ∧ ((∃ f', J XS.length f' w') ∨ (∃ k f', k ≤ XS.length ∧ Jx k f' w'))
theorem rangeX {α : Type} {P : Program} {w0 : World} {L : List Chunk} {Q : Exit → Act → World → Prop} {l : List Value} {g : Operand} {ps : List Tmp} {assign body : Code} {gf : FuncId} {first cap : List Value} {pre : (Nat → Prop) → World → Prop} {enc : α → List Value} {XS : List α} {n : Nat} {D : List Deferred}
    (hg : ev l g = .func (.func gf) first.toArray cap.toArray) (hcal : callable P gf = true) (Lm F : List Chunk) {bx : Nat} {tx : TypeId} {cx : List Value} (hsp : ∀ w, St w0 L w → St w0 (Lm ++ (F ++ [blk bx tx cx])) w) (hF : ∀ c ∈ F, ∃ b t cs, c = blk b t cs) (hps : ∀ x, (enc x).length = ps.length) (hit : IterX P gf first cap bx pre enc XS) (hpre : ∀ f w, Free w0 F (orb f bx) w → w.heap[bx]? = some (.cells cx.toArray tx (0, 0)) → pre f w)
    (JL : Nat → List Chunk → Prop) (JX : Code → List Chunk → Prop) (h0 : JL 0 Lm)
    (round : ∀ k x L' lr E, XS[k]? = some x → (∀ b t cs, blk b t cs ∈ F → PtrL w0 [E] ⟨b, 0, none⟩ cs) → JL k L' → Hold w0 (L' ++ [E]) (assign.wpIn (fen (some lr)) 0 P (Exit.then (BodyC P w0 F JL JX k lr body E) (fun _ _ _ => False)) (frd [] (setP l ps (enc x)))))
    (done : ∀ b L', JL XS.length L' → Hold w0 (L' ++ (F ++ [dfr b])) (Q .normal (frd (mark b :: D) l)))
    (stop : ∀ b c L', JX c L' → Hold w0 (L' ++ (F ++ [dfr b])) (c.wpIn (fen none) n P Q (frd (mark b :: D) l))) :
    Hold w0 L ((Code.rangeFunc g ps.toArray assign body).wpIn (fen none) n P Q (frd D l)) := by
  intro w hw0
  have hwX := hsp w hw0
  have hw : St w0 (Lm ++ F) w := hwX.sub (List.Sublist.append (List.Sublist.refl _) (List.sublist_append_left _ _))
  have hbx0 : w0.heap.size ≤ bx := (hwX.2.1 (blk bx tx cx) (by simp)).2 bx rfl
  have hbxw : bx < w.heap.size := hwX.lt (c := blk bx tx cx) (by simp) rfl
  have hpX := List.pairwise_append.1 hwX.2.2
  have hpXF := List.pairwise_append.1 hpX.2.1
  have hbxL : ∀ c ∈ Lm, ¬ c.foot bx := fun c hc h => hpX.2.2 c hc (blk bx tx cx) (by simp) bx h rfl
  have hbxF : ∀ c ∈ F, ¬ c.foot bx := fun c hc h => hpXF.2.2 c hc (blk bx tx cx) (by simp) bx h rfl
  refine wpIn_rangeFunc ?_
  intro fn hfn
  obtain ⟨rc, hrc⟩ : ∃ rc : LoopState → Option Code → Loop, rc = fun st pe => { state := st, pending := pe, fn, tmps := l.toArray, params := ps.toArray, assign, body, defers := w.heap.size } := ⟨_, rfl⟩
  obtain ⟨W1, hW1⟩ : ∃ W1, (w.alloc (.deferred (some []))).alloc (.loop (rc .ready none)) = W1 := ⟨_, rfl⟩
  obtain ⟨rd, hrd⟩ : ∃ rd : Chunk, rd = both (obj (w.heap.size + 1) (.loop (rc .ready none))) (dfr w.heap.size) := ⟨_, rfl⟩
  have hst1' : St w0 ((Lm ++ F) ++ [rd]) W1 := by
    have hb1 : Below w.heap.size w W1 := by
      rw [← hW1]; exact ((Below.refl _ w).alloc (Nat.le_refl _) _).alloc (by simp) _
    refine st_snoc (st_below hw hb1) ?_ (fun k hk => ?_) (fun c hc k hk hk' => ?_)
    · subst hrd
      refine ⟨?_, ?_⟩
      · show W1.heap[w.heap.size + 1]? = _
        rw [← hW1]; have := World.alloc_heap_new (w.alloc (.deferred (some []))) (.loop (rc .ready none)); rwa [World.size_alloc] at this
      · show W1.heap[w.heap.size]? = _
        rw [← hW1]; exact (Below.heap_alloc _ _ _ (by simp)).trans (World.alloc_heap_new w _)
    · subst hrd
      have := hw.1.size
      rcases hk with hk | hk
      · have : k = w.heap.size + 1 := hk
        omega
      · have : k = w.heap.size := hk
        omega
    · subst hrd
      have := hw.lt hc hk
      rcases hk' with hk' | hk'
      · have : k = w.heap.size + 1 := hk'
        omega
      · have : k = w.heap.size := hk'
        omega
  have hst1 : St w0 (Lm ++ (F ++ [rd])) W1 := by rw [← List.append_assoc]; exact hst1'
  have hsub : ∀ {L' : List Chunk} {x : Chunk} {W : World}, St w0 (L' ++ (F ++ [x])) W → St w0 (L' ++ [x]) W := fun h => h.sub (List.Sublist.append (List.Sublist.refl _) (List.sublist_append_right _ _))
  have hfree : ∀ {L' : List Chunk} {W : World}, St w0 (L' ++ (F ++ [rd])) W → Free w0 F (foots (L' ++ [rd])) W := fun {L'} {W} h => by
    have hp := List.pairwise_append.1 h.2.2
    have hpF := List.pairwise_append.1 hp.2.1
    refine ⟨h.sub ((List.sublist_append_left F [rd]).trans (List.sublist_append_right _ _)), fun c hc i hi => ?_, fun i hi => ?_⟩
    · rintro ⟨d, hd, hdi⟩
      rcases List.mem_append.1 hd with hd | hd
      · exact hp.2.2 d hd c (by simp [hc]) i hdi hi
      · exact hpF.2.2 c hc d hd i hi hdi
    · rintro ⟨d, hd, hdi⟩
      have := ((hsub h).2.1 d hd).2 i hdi
      omega
  have hb1 : Below w.heap.size w W1 := by
    rw [← hW1]; exact ((Below.refl _ w).alloc (Nat.le_refl _) _).alloc (by simp) _
  have hsz1 : W1.heap.size = w.heap.size + 2 := by rw [← hW1]; simp
  have hbx1 : bx < W1.heap.size := Nat.lt_of_lt_of_le hbxw hb1.size
  have hbxf : ¬ foots (Lm ++ [rd]) bx := by
    rintro ⟨d, hd, hdi⟩
    rcases List.mem_append.1 hd with hd | hd
    · exact hbxL d hd hdi
    · simp at hd; subst hd; subst hrd
      rcases hdi with hdi | hdi
      · have : bx = w.heap.size + 1 := hdi
        omega
      · have : bx = w.heap.size := hdi
        omega
  have hfreeX : Free w0 F (orb (foots (Lm ++ [rd])) bx) W1 := by
    refine ⟨(hfree hst1).1, fun c hc i hi h => ?_, fun i hi h => ?_⟩
    · rcases h with h | h
      · exact (hfree hst1).2.1 c hc i hi h
      · exact hbxF c hc (h ▸ hi)
    · rcases h with h | h
      · exact (hfree hst1).2.2 i hi h
      · omega
  have hFW : ∀ c ∈ F, ∀ i, c.foot i → i < W1.heap.size := fun c hc i hi => hst1.lt (c := c) (by simp [hc]) hi
  refine ⟨w.heap.size + 1, [mark w.heap.size], W1, { target := .fn (.func gf) cap.toArray, args := first.toArray ++ #[Value.func (.yield (w.heap.size + 1)) #[] #[]] }, W1, gf,
    (first ++ [Value.func (.yield (w.heap.size + 1)) #[] #[]] ++ cap).toArray, W1, ?_, ?_, fun _ _ => trivial, ?_, fun h => (by cases h), ?_⟩
  · rw [← hW1, hrc]; exact run_enterLoop_outer _ _ _ _ _
  · have he : (frd D l).eval g = .func (.func gf) first.toArray cap.toArray := by rw [frd_eval]; exact hg
    simp only [resolve, he]
    simp [go_sem]
  · simp [invoke, go_sem, run_call hcal]
  · refine calls_fen ((hit (w.heap.size + 1) W1.heap.size
      (fun k f W => ∃ L', JL k L' ∧ St w0 (L' ++ (F ++ [rd])) W ∧ f = foots (L' ++ [rd]) ∧ ¬ f bx ∧ bx < W.heap.size)
      (fun k f W => ∃ c L', JX c L' ∧ St w0 (L' ++ (F ++ [both (obj (w.heap.size + 1) (.loop (rc .done (some c)))) (dfr w.heap.size)])) W ∧ f = foots (L' ++ [rd]) ∧ ¬ f bx ∧ bx < W.heap.size)
      (foots (Lm ++ [rd])) W1 (Nat.le_refl _) hbx1 ?_ ?_ ?_ ?_ ?_ hbxf ?_ ⟨Lm, h0, hst1, rfl, hbxf, hbx1⟩ (hpre _ _ hfreeX ((hwX.keep (hb1.mono hw.1.size) (fun c hc k hk => hb1.block k (hwX.lt hc hk))).2.1 (blk bx tx cx) (by simp)).1)).mono ?_)
    · rintro k f W W' ⟨L', h1, h2, rfl, hn, hlt⟩ hb hs
      refine ⟨L', h1, h2.keep (hb.below hst1.1.size hbx0) (fun c hc i hi => ?_), rfl, hn, Nat.lt_of_lt_of_le hlt hb.size⟩
      rcases List.mem_append.1 hc with hc | hc
      · exact hs i ⟨c, by simp [hc], hi⟩
      rcases List.mem_append.1 hc with hc | hc
      · exact hb.block i (hFW c hc i hi) (fun e => hbxF c hc (e ▸ hi))
      · exact hs i ⟨c, by simp [List.mem_singleton.1 hc], hi⟩
    · rintro k f W W' ⟨c0, L', h1, h2, rfl, hn, hlt⟩ hb hs
      refine ⟨c0, L', h1, h2.keep (hb.below hst1.1.size hbx0) (fun c hc i hi => ?_), rfl, hn, Nat.lt_of_lt_of_le hlt hb.size⟩
      rcases List.mem_append.1 hc with hc | hc
      · exact hs i ⟨c, by simp [hc], hi⟩
      rcases List.mem_append.1 hc with hc | hc
      · exact hb.block i (hFW c hc i hi) (fun e => hbxF c hc (e ▸ hi))
      · refine hs i ⟨rd, by simp, ?_⟩
        have := List.mem_singleton.1 hc
        subst this; subst hrd; exact hi
    · rintro k f W ⟨L', h1, h2, rfl, hn, hlt⟩
      have h3 := h2.lt (c := rd) (k := w.heap.size + 1) (by simp) (by subst hrd; exact .inl rfl)
      rw [hsz1]; omega
    · rintro k f W ⟨c0, L', h1, h2, rfl, hn, hlt⟩
      have h3 := h2.lt (c := both (obj (w.heap.size + 1) (.loop (rc .done (some c0)))) (dfr w.heap.size)) (k := w.heap.size + 1) (by simp) (.inl rfl)
      rw [hsz1]; omega
    · rintro i ⟨c, hc, hi⟩
      exact (hsub hst1).lt hc hi
    · -- one round
      rintro k x f W hx ⟨L', hJ, hstF, rfl, hbn, hblt⟩
      have hst := hsub hstF
      have hl : W.heap[w.heap.size + 1]? = some (.loop (rc .ready none)) := by
        have := (st_front hst).2.1
        subst hrd; exact this.1
      have hy := run_yield (P := P) (args := (enc x).toArray) hl (by rw [hrc]; simp [hps])
      have hy' : (Instr.yield (w.heap.size + 1) (enc x).toArray).run P W = .ok (.round (w.heap.size + 1) fn (setP l ps (enc x)).toArray assign body) W := by
        rw [hy, hrc]
        congr 2
        exact setP_arr l ps (enc x)
      refine ⟨fn, _, assign, body, hy', roundIn_of_wpIn trivial ?_⟩
      obtain ⟨ot, hot⟩ : ∃ ot : Chunk, ot = oth w0.heap.size (L' ++ [rd]) W := ⟨_, rfl⟩
      have hf := st_front hst
      have hE1 : St w0 (L' ++ [both rd ot]) W := by subst hot; exact fix_in hstF
      refine wide_seq (r := some (w.heap.size + 1)) (round k x L' (w.heap.size + 1) (both rd ot) hx (fun b t cs hm => by subst hot; exact fix_ptr hstF hm) hJ W hE1) ?_
      rintro e a1 w1 hp
      cases e with
      | normal =>
        obtain ⟨l2, L2, rfl, hst2, hbody⟩ := hp
        have hf2 := st_front hst2
        have hl2 : w1.heap[w.heap.size + 1]? = some (.loop (rc .ready none)) := by
          have h1 := hf2.2.1.1
          subst hrd; exact h1.1
        have hd2 : w1.heap[w.heap.size]? = some (.deferred (some [])) := by
          have h1 := hf2.2.1.1
          subst hrd; exact h1.2
        refine ⟨_, run_beginRound hl2 (by rw [hrc]), ?_⟩
        obtain ⟨rb, hrb⟩ : ∃ rb : Chunk, rb = both (obj (w.heap.size + 1) (.loop (rc .busy none))) (dfr w.heap.size) := ⟨_, rfl⟩
        have hlt : ∀ {W : World} {o : Obj}, W.heap[w.heap.size + 1]? = some o → w.heap.size + 1 < W.heap.size := fun h => lt_of_some h
        have hfoot : ∀ k, rb.foot k ↔ rd.foot k := fun k => by subst hrb; subst hrd; exact Iff.rfl
        have hrdl : rd.foot (w.heap.size + 1) := by subst hrd; exact .inl rfl
        have hrdd : rd.foot w.heap.size := by subst hrd; exact .inr rfl
        have hotn : ∀ {W' : World} {o : Obj}, ot.holds W' → ot.holds (W'.putObj (w.heap.size + 1) o) := fun h => by
          refine ot.loc _ _ h (fun k hk => World.putObj_heap_other (fun e => ?_))
          subst hot; subst e
          exact hk.2.2 ⟨rd, by simp, hrdl⟩
        have hst3 : St w0 (L2 ++ [both rb ot]) (w1.putObj (w.heap.size + 1) (.loop (rc .busy none))) := by
          refine st_put hst2 (.inl hrdl) ⟨?_, hotn hf2.2.1.2⟩ (fun k hk => ?_)
          · subst hrb
            exact ⟨World.putObj_heap_same (hlt hl2), (World.putObj_heap_other (by omega)).trans hd2⟩
          · rcases hk with hk | hk
            · exact .inl ((hfoot k).1 hk)
            · exact .inr hk
        have e0 : ({ rc .ready none with state := .busy } : Loop) = rc .busy none := by rw [hrc]
        rw [e0]
        refine wide_seq (r := some (w.heap.size + 1)) (hbody (both rb ot) (fun b t cs hm => by subst hot; exact fix_ptr hstF hm) _ hst3) ?_
        -- what a round's end owes
        have fin : ∀ (jump : Option Code) (w3 : World) (L3 : List Chunk), St w0 (L3 ++ [both rb ot]) w3 →
            (Instr.endRound (w.heap.size + 1) jump).run P w3 = .ok (.bool jump.isNone) (w3.putObj (w.heap.size + 1) (.loop (rc (if jump.isNone then .ready else .done) jump))) ∧
            St w0 (L3 ++ (F ++ [both (obj (w.heap.size + 1) (.loop (rc (if jump.isNone then .ready else .done) jump))) (dfr w.heap.size)])) (w3.putObj (w.heap.size + 1) (.loop (rc (if jump.isNone then .ready else .done) jump))) ∧
            Grew (foots (L' ++ [rd])) W (foots (L3 ++ [rd])) ∧ Kept (foots (L' ++ [rd])) W (w3.putObj (w.heap.size + 1) (.loop (rc (if jump.isNone then .ready else .done) jump))) ∧
            ∀ i, foots (L3 ++ [rd]) i → i < (w3.putObj (w.heap.size + 1) (.loop (rc (if jump.isNone then .ready else .done) jump))).heap.size := by
          intro jump w3 L3 hst4
          have hf4 := st_front hst4
          have h1 := hf4.2.1.1
          have hl4 : w3.heap[w.heap.size + 1]? = some (.loop (rc .busy none)) := by subst hrb; exact h1.1
          have hd4 : w3.heap[w.heap.size]? = some (.deferred (some [])) := by subst hrb; exact h1.2
          have hst5 : St w0 ((L3 ++ F) ++ [rb]) w3 := by
            rw [List.append_assoc]; subst hot; exact fix_expand hF hfoot hstF hst4
          have hs4 : St w0 (L3 ++ (F ++ [both (obj (w.heap.size + 1) (.loop (rc (if jump.isNone then .ready else .done) jump))) (dfr w.heap.size)])) (w3.putObj (w.heap.size + 1) (.loop (rc (if jump.isNone then .ready else .done) jump))) := by
            rw [← List.append_assoc]
            refine st_put hst5 ((hfoot _).2 hrdl) ⟨World.putObj_heap_same (hlt hl4), (World.putObj_heap_other (by omega)).trans hd4⟩ (fun k hk => (hfoot k).2 ?_)
            subst hrd; exact hk
          refine ⟨?_, hs4, ?_, ?_, ?_⟩
          · have := run_endRound (P := P) jump hl4
            rw [this, hrc]
          · rintro i ⟨c, hc, hi⟩
            by_cases hfi : foots (L' ++ [rd]) i
            · exact .inl hfi
            · refine .inr (Nat.le_of_not_lt fun hlt' => ?_)
              rcases List.mem_append.1 hc with hc | hc
              · refine hf4.2.2.2 c hc i hi (.inr ?_)
                subst hot
                exact ⟨(hst4.2.1 c (by simp [hc])).2 i hi, hlt', hfi⟩
              · simp at hc; subst hc; exact hfi ⟨c, by simp, hi⟩
          · intro i hi hni
            have hne : i ≠ w.heap.size + 1 := fun e => hni ⟨rd, by simp, by subst e; exact hrdl⟩
            rw [World.putObj_heap_other (by omega)]
            rcases Nat.lt_or_ge i w0.heap.size with h2 | h2
            · rw [hst4.1.block i h2, hst.1.block i h2]
            · have h3 := hf4.2.1.2
              subst hot
              exact h3 i h2 hi hni
          · rintro i ⟨c, hc, hi⟩
            have hs4' := hsub hs4
            rcases List.mem_append.1 hc with hc | hc
            · exact hs4'.lt (c := c) (by simp [hc]) hi
            · simp at hc
              refine hs4'.lt (c := both (obj (w.heap.size + 1) (.loop (rc (if jump.isNone then .ready else .done) jump))) (dfr w.heap.size)) (by simp) ?_
              subst hc; subst hrd; exact hi
        rintro e a3 w3 hq
        cases e with
        | normal =>
          obtain ⟨L3, hJ3, hst4⟩ := hq
          obtain ⟨hr, hs, hgr, hk, hlt3⟩ := fin none w3 L3 hst4
          exact ⟨_, _, hr, _, hgr, hk, hlt3, .inl ⟨rfl, L3, hJ3, by subst hrd; exact hs, rfl, fun h => (hgr _ h).elim hbn (fun h => by omega), lt_of_same hblt (hk bx hblt hbn)⟩⟩
        | ret =>
          obtain ⟨L3, hJ3, hst4⟩ := hq
          obtain ⟨hr, hs, hgr, hk, hlt3⟩ := fin (some .ret) w3 L3 hst4
          exact ⟨_, _, hr, _, hgr, hk, hlt3, .inr ⟨rfl, _, L3, hJ3, hs, rfl, fun h => (hgr _ h).elim hbn (fun h => by omega), lt_of_same hblt (hk bx hblt hbn)⟩⟩
        | exit id =>
          obtain ⟨L3, hJ3, hst4⟩ := hq
          obtain ⟨hr, hs, hgr, hk, hlt3⟩ := fin (some (.exit id)) w3 L3 hst4
          exact ⟨_, _, hr, _, hgr, hk, hlt3, .inr ⟨rfl, _, L3, hJ3, hs, rfl, fun h => (hgr _ h).elim hbn (fun h => by omega), lt_of_same hblt (hk bx hblt hbn)⟩⟩
        | _ => exact (show False from hq).elim
      | _ => exact (show False from hp).elim
    · -- the function has returned
      rintro e w3 ⟨⟨v, rfl⟩, hh⟩
      have hdef : ({ frd D l with defers := [mark w.heap.size] ++ (frd D l).defers } : Act) = frd (mark w.heap.size :: D) l := rfl
      rw [hdef]
      rcases hh with ⟨f', L', hJ, hstF, _⟩ | ⟨k, f', _, c, L', hJ, hstF, _⟩
      · have hf := st_front (hsub hstF)
        have hl3 : w3.heap[w.heap.size + 1]? = some (.loop (rc .ready none)) := by
          have h1 := hf.2.1
          subst hrd; exact h1.1
        have hd3 : w3.heap[w.heap.size]? = some (.deferred (some [])) := by
          have h1 := hf.2.1
          subst hrd; exact h1.2
        have hend := run_endLoop (P := P) hl3 (by rw [hrc]; simp)
        refine ⟨_, _, hend, ?_⟩
        have e1 : (rc .ready none).pending = none := by rw [hrc]
        rw [e1]
        refine done _ L' hJ _ ?_
        rw [← List.append_assoc] at hstF ⊢
        exact st_put hstF (by subst hrd; exact .inl rfl) ((World.putObj_heap_other (by omega)).trans hd3) (fun k hk => by subst hrd; exact .inr hk)
      · have hf := st_front (hsub hstF)
        have hl3 : w3.heap[w.heap.size + 1]? = some (.loop (rc .done (some c))) := hf.2.1.1
        have hd3 : w3.heap[w.heap.size]? = some (.deferred (some [])) := hf.2.1.2
        have hend := run_endLoop (P := P) hl3 (by rw [hrc]; simp)
        refine ⟨_, _, hend, ?_⟩
        have e1 : (rc .done (some c)).pending = some c := by rw [hrc]
        rw [e1]
        refine stop _ c L' hJ _ ?_
        rw [← List.append_assoc] at hstF ⊢
        exact st_put hstF (.inl rfl) ((World.putObj_heap_other (by omega)).trans hd3) (fun k hk => .inr hk)
theorem yield_steps {α : Type} {P : Program} {lr : Nat} {enc : α → List Value} {XS : List α} {J Jx : Nat → (Nat → Prop) → World → Prop} (hR : RoundOK2 P lr enc XS J Jx) {k : Nat} {x : α} {f : Nat → Prop} {w : World} (hx : XS[k]? = some x) (hJ : J k f w) :
    YieldAt (fen none) 0 P lr (enc x).toArray w (fun e w' => ∃ b, e = .returned (.bool b) ∧ Step2 XS J Jx k f w b w') := by
  obtain ⟨fn, tmps, assign, body, h1, h2⟩ := hR k x f w hx hJ
  refine ⟨fn, tmps, assign, body, h1, h2.mono ?_⟩
  rintro e w' ⟨f', hg, hk, hl, h⟩
  rcases h with ⟨he, h⟩ | ⟨he, h⟩
  · exact ⟨true, he, .inl ⟨rfl, f', h, Keep.of hg hk, hg, hl⟩⟩
  · exact ⟨false, he, .inr ⟨rfl, k + 1, f', (List.getElem?_eq_some_iff.1 hx).1, h, Keep.of hg hk, hg, hl⟩⟩
/-- The end of a round. -/
def RoundEndN (Inv : Nat → List Value → World → Prop) (m : Nat) (wi wr : List Nat) (l : List Value) : Act → World → Prop :=
  fun a w' => ∃ m' vi' vr', a = frd [] (setF vr' (setM l wi vi') wr) ∧ Inv m' vi' w' ∧ m' < m
/-- Loops that call yield, whose count is not in the frame. -/
theorem loopN {P : Program} {w0 : World} {L : List Chunk} {Q : Exit → Act → World → Prop} {l : List Value} {x : Code} {n : Nat} (wi wr : List Nat) (Inv : Nat → List Value → World → Prop) (n0 : Nat) (h0 : ∀ w, St w0 L w → Inv n0 (wi.map (nth l)) w)
    (round : ∀ m vi vr W, Inv m vi W → Hold W [] (x.wpIn (fen none) n P (Exit.then (RoundEndN Inv m wi wr l) Q) (frd [] (setF vr (setM l wi vi) wr)))) :
    Hold w0 L ((Code.loop x).wpIn (fen none) n P Q (frd [] l)) := by
  intro w hw
  refine wpIn_loop_ghost (fun n a w => ∃ vi vr, a = frd [] (setF vr (setM l wi vi) wr) ∧ Inv n vi w) _ ⟨_, nth l, by rw [setM_self, setF_self], h0 w hw⟩ ?_
  rintro n a w ⟨vi, vr, rfl, hJ⟩
  refine wpIn_mono (round n vi vr w hJ w (St.start w)) (fun e a' w' hq => ?_)
  cases e with
  | normal =>
    obtain ⟨m', vi', vr', rfl, hJ', hlt⟩ := hq
    exact ⟨_, hlt, vi', vr', rfl, hJ'⟩
  | _ => exact hq
theorem roundN {w0 : World} {L : List Chunk} {Q : Exit → Act → World → Prop} {Inv : Nat → List Value → World → Prop} {wi wr : List Nat} {l0 l : List Value} {m : Nat} (m' : Nat) (vi' : List Value) (hJ : ∀ w, St w0 L w → Inv m' vi' w) (hμ : m' < m) (he : l = setF (nth l) (setM l0 wi vi') wr) :
    Hold w0 L (Exit.then (RoundEndN Inv m wi wr l0) Q .normal (frd [] l)) := fun w hw => ⟨m', vi', nth l, by rw [← he], hJ w hw, hμ⟩
section
variable {r : Option Nat} {n : Nat} {P : Program} {w0 : World} {L : List Chunk} {D : List Deferred} {ops : Array Oper} {Q : Exit → Act → World → Prop} {rest : List Oper} {l : List Value} {o : Oper} {v : Value} {id : Nat}
/-- A call of yield. -/
theorem lseq_yield2 {d : Option Tmp} {ty : TypeId} {ps : String} {af : Array Edge} {g : Option (Nat × Bool)} {x : Operand} {ys : List Operand} {lr : Nat} {us : List Value} {ts : Array TypeId} {post : World → Bool → World → Prop} (hx : ev l x = .func (.yield lr) #[] #[]) (hy : ys.map (ev l) = us)
    (hg : wantL ops.toList l g = true) (hc : ∀ w, St w0 L w → YieldAt (fen none) 0 P lr us.toArray w (fun e w' => ∃ b, e = .returned (.bool b) ∧ post w b w'))
    (k : ∀ w, St w0 L w → ∀ b w', post w b w' → Hold w' [] (wpListIn (fen r) n P ops Q rest (frd D (setd l d (.bool b))))) : Hold w0 L (wpListIn (fen r) n P ops Q (⟨d, .call { callee := .value x, args := ys.toArray, argTypes := ts }, ty, ps, af, g⟩ :: rest) (frd D l)) := by
  intro w hw
  unfold wpListIn
  have hyl : Region.wanted ⟨d, .call { callee := .value x, args := ys.toArray, argTypes := ts }, ty, ps, af, g⟩ (yielded ops (frd D l).tmps) = wantL ops.toList l g := wanted_eq ops l _
  rw [if_pos (by rw [hyl]; exact hg)]
  refine ⟨fun _ _ => trivial, ?_⟩
  have hs : (⟨d, .call { callee := .value x, args := ys.toArray, argTypes := ts }, ty, ps, af, g⟩ : Oper).semAt (fen r).round (frd D l).eval = execOp (ev l) ⟨d, .call { callee := .value x, args := ys.toArray, argTypes := ts }, ty, ps, af, g⟩ := by
    rw [frd_eval]
    cases r with
    | none => rfl
    | some l' => exact Oper.semAt_some l' (ev l) _ (fun c hc => by cases hc)
  obtain ⟨fn, tmps, assign, body, hrun, hround⟩ := hc w hw
  rw [hs]
  have hexec : (execOp (ev l) ⟨d, .call { callee := .value x, args := ys.toArray, argTypes := ts }, ty, ps, af, g⟩).run P w = .ok (.round lr fn tmps assign body) w := by
    have e2 : ys.toArray.map (ev l) = us.toArray := by rw [← hy]; simp
    simp only [execOp, resolve, hx, e2, Deferred.ofValue, Sem.run_bind, Sem.run_pure, Result.andThen_ok, invoke]
    simp [hrun]
  rw [hexec]
  refine ⟨fun h => (by cases h), (round_fen hround).mono ?_⟩
  rintro e w' ⟨b, rfl, h⟩
  show wpListIn (fen r) n P ops Q rest ((frd D l).put d (.bool b)) w'
  rw [frd_put]
  exact k w hw b w' h w' (St.start w')
end
section
variable {P : Program} {w0 : World} {L : List Chunk} {ops : Array Oper} {Q : Exit → Act → World → Prop} {rest : List Oper} {l : List Value} {d : Option Tmp} {ty : TypeId} {ps : String} {af : Array Edge} {g : Option (Nat × Bool)}
theorem store_old {w : World} {t n b i : Nat} {e : TypeId} {x y : Operand} {cs : List Value} (hn : sz P t = some n) (hx : ev l x = .pointer (some ⟨b, i, none⟩)) (hlen : (cl (ev l y)).length = n) (hfit : i + n ≤ cs.length)
    (h1 : (cl (ev l y)).all Value.oneCell' = true) (hh : w.heap[b]? = some (.cells cs.toArray e (0, 0))) :
    OpT P ⟨d, .store t x y, ty, ps, af, g⟩ l w (fun _ w' => w' = w.setRow b (over cs i (cl (ev l y))).toArray) := by
  have hst := run_storeCells_at P b i e (cl (ev l y)) 0 cs.toArray w hh (by simp; omega) (by simpa using h1)
  simp only [Nat.add_zero] at hst
  rw [← over_eq _ _ _ (by omega)] at hst
  refine OpT.of_skip (w' := w.setRow b (over cs i (cl (ev l y))).toArray) ?_ rfl
  unfold sz at hn
  cases hi : P.info? t with
  | none => simp [hi] at hn
  | some q =>
    have hs : q.size = n := by simpa [hi] using hn
    have hcs : (ev l y).cells.size = n := by rw [← hlen, ← cells_cl]; simp
    simp [execOp, hx, Instr.storeAt, Instr.sureAddr, storeVar, sizeOf, typeInfo, hi, hs, hcs, cells_cl, hst]
/-- A store into a block that was there before. -/
theorem seq_old {t n b i : Nat} {e : TypeId} {x y : Operand} {cs : List Value} (hn : sz P t = some n) (hx : ev l x = .pointer (some ⟨b, i, none⟩)) (hlen : (cl (ev l y)).length = n) (hfit : i + n ≤ cs.length)
    (h1 : (cl (ev l y)).all Value.oneCell' = true) (hg : wantL ops.toList l g = true) (hd : d = none) (hh : ∀ w, St w0 L w → w.heap[b]? = some (.cells cs.toArray e (0, 0)))
    (k : ∀ w w', St w0 L w → w'.heap[b]? = some (.cells (over cs i (cl (ev l y))).toArray e (0, 0)) → (∀ i, i ≠ b → w'.heap[i]? = w.heap[i]?) → (∀ B, BelowX B b w w') → Hold w' [] (wpList P ops Q rest (fr l))) :
    Hold w0 L (wpList P ops Q (⟨d, .store t x y, ty, ps, af, g⟩ :: rest) (fr l)) :=
  seq_op (R := fun w v w' => w' = w.setRow b (over cs i (cl (ev l y))).toArray) hg (fun w hw => store_old hn hx hlen hfit h1 (hh w hw)) (fun w hw v w' hR => by
    subst hR; subst hd
    have hgr := grownBy_setRow w b (over cs i (cl (ev l y))).toArray
    have hne : ∀ j, j ≠ b → (w.setRow b (over cs i (cl (ev l y))).toArray).heap[j]? = w.heap[j]? := fun j hj => by
      simp only [World.setRow, Array.getElem?_modify]
      rw [if_neg (fun e => hj e.symm)]
    exact k w _ hw (setRow_heap w b cs.toArray _ e (0, 0) (hh w hw)) hne (fun B => ⟨hgr.os, hgr.tape, hgr.output, hgr.size, fun j _ hj => hne j hj⟩) _ (St.start _))
end
end Go.R

/-
  Slices that are made.
  No conditions: plain lemmas over any program.
-/
namespace Go.K
open Go.RowKit
theorem row_holds {v : Value} {e : TypeId} {size n : Nat} {xs : List Value} {w : World} : (row v e size n xs).holds w ↔ w.ownsRow 0 e size v n xs := Iff.rfl
theorem row_foot {v : Value} {e : TypeId} {size n k : Nat} {xs : List Value} : (row v e size n xs).foot k ↔ v.ownBlock = some k := Iff.rfl
/-- The element's type of a slice, its bytes, and what it is at first: of one cell. -/
def mk1 (P : Program) (t : TypeId) : Option (TypeId × Nat × Value) :=
  match P.underlying t with
  | some (.slice e) => match P.info? e with
    | some i => match i.zero with
      | some z => if z.cells.size = 1 ∧ i.size = 1 then some (e, i.bytes, z.cells[0]!) else none
      | none => none
    | none => none
  | _ => none
theorem mk1_spec {P : Program} {t e b : Nat} {u : Value} (h : mk1 P t = some (e, b, u)) : ∃ i z, P.underlying t = some (.slice e) ∧ P.info? e = some i ∧ i.zero = some z ∧ i.size = 1 ∧ i.bytes = b ∧ z.cells = #[u] := by
  unfold mk1 at h
  split at h
  · rename_i e' hs
    split at h
    · rename_i i hi
      split at h
      · rename_i z hz
        split at h
        · rename_i hc
          simp only [Option.some.injEq, Prod.mk.injEq] at h
          obtain ⟨rfl, rfl, rfl⟩ := h
          refine ⟨i, z, hs, hi, hz, hc.2, rfl, ?_⟩
          apply Array.ext
          · simp [hc.1]
          · intro j h1 h2
            have : j = 0 := by simp at h2; omega
            subst this
            simp [hc.1]
        · cases h
      · cases h
    · cases h
  · cases h
theorem made1 (u : Value) (n : Nat) : madeCells #[u] n = (List.replicate n u).toArray := by
  apply Array.ext
  · simp [madeCells]
  · intro j h1 h2
    simp [madeCells, Nat.mod_one]
section
variable {P : Program} {w0 : World} {L L' : List Chunk} {l : List Value} {d : Option Tmp} {ty : TypeId} {ps : String} {af : Array Edge} {g : Option (Nat × Bool)}
theorem mkSlice {t e bytes n : Nat} {u : Value} {x y : Operand} (h : mk1 P t = some (e, bytes, u)) (hx : ev l x = .int .i64 (n : Int)) (hy : ev l y = .int .i64 (n : Int)) (hb : bytes * n ≤ 281474976710656) (hn : n ≤ 281474976710656) :
    Loud P w0 L ⟨d, .makeSlice t x y, ty, ps, af, g⟩ l (fun _ : Nat => True) (fun b => .slice (some ⟨b, 0, none⟩) n n) (fun b => [blk b e (List.replicate n u)]) := fun F w _ hw => by
  obtain ⟨i, z, hs, hi, hz, h1, h2, h3⟩ := mk1_spec h
  refine OpT.of_run (w' := w.alloc (.cells (List.replicate n u).toArray e)) ?_ ⟨w.heap.size, trivial, rfl, hw.new e (List.replicate n u)⟩
  have hb' : (i.bytes : Int) * (n : Int) ≤ 281474976710656 := by
    rw [h2]
    have : ((bytes * n : Nat) : Int) ≤ 281474976710656 := by omega
    rwa [Int.natCast_mul] at this
  have hr := run_make (P := P) w t e i z hs hi hz .i64 .i64 n n (by omega) (Int.le_refl _) hb' (by omega)
  rw [h3, h1, Int.toNat_natCast, Nat.mul_one, made1] at hr
  simp only [execOp, hx, hy, Sem.run_bind, hr, Sem.run_pure, Result.andThen_ok]
theorem rep_int {n : Nat} {z : Int} : List.replicate n (Value.int .i64 z) = (List.replicate n z).flatMap eI := by
  induction n with
  | zero => rfl
  | succ n ih => rw [List.replicate_succ, List.replicate_succ, List.flatMap_cons, ih]; rfl
theorem andnot_int {xt yt : TypeId} {x y : Operand} {k : IntKind} {m n : Int} (hx : ev l x = .int k m) (hy : ev l y = .int k n) : Pure P ⟨d, .binOp .andNot xt x y yt, ty, ps, af, g⟩ l (.int k (k.wrap (BitVec.ofInt k.bits m &&& ~~~BitVec.ofInt k.bits n).toNat)) := fun w => by
  simp [execOp, hx, hy, binOp, eqGuard, Op.intBits]
/-- A row, of which only the first part is looked at. -/
theorem row_shrink {A : Option Addr} {n m c e size : Nat} {xs : List Value} {G : World → Prop} (hr : Rep (row (.slice A n c) e size n xs) (row (.slice A m c) e size m (xs.take (m * size))) L L') (hm : m ≤ n) (k : Hold w0 L' G) : Hold w0 L G := fun w hw => by
  have ho : w.ownsRow 0 e size (.slice A n c) n xs := (hw.2.1 _ hr.mem).1
  refine k w (hw.upd (row := none) hr ⟨rfl, rfl, rfl, Nat.le_refl _, fun _ _ _ => rfl⟩ (fun _ h => by cases h) ?_ (fun q hq => .inl ?_))
  · obtain ⟨hl, hd⟩ := ho
    have hml : m * size ≤ n * size := Nat.mul_le_mul_right _ hm
    refine ⟨by rw [List.length_take]; omega, ?_⟩
    rcases hd with ⟨hv, h0⟩ | ⟨gg, cap, cur, hv, hb, hh, h2, h3, h4, h5⟩
    · injection hv with e1 _ e3
      subst e1; subst e3
      exact .inl ⟨by rw [show m = 0 by omega], by omega⟩
    · injection hv with e1 _ e3
      subst e1; subst e3
      refine .inr ⟨gg, c, cur, rfl, hb, hh, by omega, h3, h4, ?_⟩
      rw [← h5, List.take_take, Nat.min_eq_left hml]
  · cases A with
    | none => simp [row, Value.ownBlock] at hq
    | some a => exact hq
theorem row_pop {A : Option Addr} {n c e : Nat} {xs : List Value} {v : Value} {G : World → Prop} (hr : Rep (row (.slice A (n + 1) c) e 1 (n + 1) (xs ++ [v])) (row (.slice A n c) e 1 n xs) L L') (hl : xs.length = n) (k : Hold w0 L' G) : Hold w0 L G := by
  have e1 : (xs ++ [v]).take (n * 1) = xs := by rw [Nat.mul_one, ← hl, List.take_left]
  have hr2 : Rep (row (.slice A (n + 1) c) e 1 (n + 1) (xs ++ [v])) (row (.slice A n c) e 1 n ((xs ++ [v]).take (n * 1))) L L' := by rw [e1]; exact hr
  exact row_shrink hr2 (Nat.le_succ n) k
theorem slice_hm {t et size n c : Nat} {x y z : Operand} {A : Option Addr} {k k' : IntKind} (hs : sl P t = some (et, size)) (hx : ev l x = .slice A n c) (hy : ev l y = .int k (n : Int)) (hz : ev l z = .int k' (n : Int)) (h1 : n ≤ c) :
    Pure P ⟨d, .slice t x none (some y) (some z), ty, ps, af, g⟩ l (.slice A n n) := fun w => by
  obtain ⟨hu, he⟩ := elem_sl hs
  obtain ⟨i, _, hi, hn⟩ := sl_spec hs
  have := run_slice_hm (P := P) w t A n c hu k k' (n : Int) (n : Int) (by omega) (by omega) (by omega)
  have e0 : A.map (fun a => a.add (0 * size)) = A := by cases A <;> simp [addr_add0]
  simp only [execOp, Option.map_some, Option.map_none, hx, hy, hz, run_sliceAt_slice w t _ none _ _ hu, this, sizeOf, typeInfo, he, hi, hn, Sem.run_bind, run_program, Sem.run_pure, Result.andThen_ok, sliced, Nat.sub_zero, Int.toNat_natCast, e0, ite_self]
/-- An append to a slice without room: a new row. -/
theorem appendN {t ty' e size bytes n m c' : Nat} {A : Option Addr} {ad : Addr} {s x : Operand} {E : Type} {enc : E → List Value} {xs : List E} {news : List Value} {M : List Chunk} (ht : el P t = some (e, size, bytes)) (hs : ev l s = .slice A n n) (hx : ev l x = .slice (some ad) m c')
    (hold : Sl w0 M A size enc xs) (hM : ∀ c ∈ M, c ∈ L) (hA : xs.length = 0 ∨ ∃ b, A = some ⟨b, 0, none⟩) (hn : xs.length = n) (hle : ∀ x, (enc x).length = size)
    (hp : PtrL w0 L ad news) (hl : news.length = m * size) (hm : 0 < m) (hb : (n + m) * bytes ≤ 140737488355328) (hb' : n + m ≤ 140737488355328) :
    Loud P w0 L ⟨d, .call { callee := .builtin .append, args := #[s, x], argTypes := #[t, t] }, ty', ps, af, g⟩ l (fun _ : Nat × Nat => True) (fun r => .slice (some ⟨r.1, 0, none⟩) (n + m) r.2) (fun r => [row (.slice (some ⟨r.1, 0, none⟩) (n + m) r.2) e size (n + m) (xs.flatMap enc ++ news)]) := fun F w hF hw => by
  obtain ⟨i, z, hu, hi, hz, hsi, hby, hzs, hpos⟩ := el_spec ht
  subst hsi hby hn
  have hlo : (xs.flatMap enc).length = xs.length * i.size := flat_len hle xs
  have hnw := hp F w hF hw
  have hlen : (xs.flatMap enc ++ news).length = (xs.length + m) * i.size := by rw [List.length_append, hlo, hl, Nat.add_mul]
  have key : ∀ old, old ≤ xs.length → (Builtin.append_ #[t, t] ty' #[.slice A xs.length xs.length, .slice (some ad) m c']).run P w =
      .ok (.slice (some ⟨w.heap.size, 0, none⟩) (xs.length + m) (grownCap w (xs.length + m) old e)) (w.drew.alloc (.cells ((xs.flatMap enc).toArray ++ news.toArray ++ Builtin.zeroCells z.cells (grownCap w (xs.length + m) old e - (xs.length + m))) e)) →
      OpT P ⟨d, .call { callee := .builtin .append, args := #[s, x], argTypes := #[t, t] }, ty', ps, af, g⟩ l w (fun v w' => ∃ r : Nat × Nat, True ∧ v = .slice (some ⟨r.1, 0, none⟩) (xs.length + m) r.2 ∧ St w0 ([row (.slice (some ⟨r.1, 0, none⟩) (xs.length + m) r.2) e i.size (xs.length + m) (xs.flatMap enc ++ news)] ++ F) w') := fun old ho hr => by
    have hge := grownCap_ge w (xs.length + m) old e
    have hcm : grownCap w (xs.length + m) old e ≤ maxLen := grownCap_le_maxLen w (xs.length + m) old e (by simp only [maxLen]; omega)
    refine OpT.of_run (w' := w.drew.alloc (.cells ((xs.flatMap enc).toArray ++ news.toArray ++ Builtin.zeroCells z.cells (grownCap w (xs.length + m) old e - (xs.length + m))) e)) ?_ ⟨(w.heap.size, grownCap w (xs.length + m) old e), trivial, rfl, ?_⟩
    · simp only [execOp, resolve, invoke, builtin, Sem.run_bind, Sem.run_pure, Result.andThen_ok, List.map_toArray, List.map_cons, List.map_nil, hs, hx, hr]
    · have hbe : Below w.heap.size w (w.drew.alloc (.cells ((xs.flatMap enc).toArray ++ news.toArray ++ Builtin.zeroCells z.cells (grownCap w (xs.length + m) old e - (xs.length + m))) e)) := (Below.refl _ w).drew.alloc (by simp) _
      have hst := hw.keep (hbe.mono hw.1.size) (fun c hc k hk => hbe.block k (hw.lt hc hk))
      refine ⟨hst.1, fun c hc => ?_, ?_⟩
      · rcases List.mem_append.1 hc with hc | hc
        · simp at hc; subst hc
          refine ⟨⟨hlen, .inr ⟨w.heap.size, _, _, rfl, Nat.zero_le _, heap_alloc_new w.drew _, hge, hcm, ?_, ?_⟩⟩, fun k hk => ?_⟩
          · simp only [Array.size_append, List.size_toArray, size_zeroCells, hzs, hlo, hl, ← Nat.add_mul]
            congr 1
            omega
          · simp only [Array.toList_append, List.append_assoc]
            rw [← List.append_assoc, ← hlen]
            exact List.take_left
          · have : w.heap.size = k := by simpa [row, Value.ownBlock] using hk
            have := hw.1.size
            omega
        · exact hst.2.1 c hc
      · refine List.pairwise_append.2 ⟨by simp, hst.2.2, fun c hc c2 hc2 k hk hk2 => ?_⟩
        simp at hc; subst hc
        have e1 : w.heap.size = k := by simpa [row, Value.ownBlock] using hk
        have := hw.lt hc2 hk2
        omega
  cases A with
  | none =>
    have h0 : xs = [] := by
      rcases hA with h | ⟨b, h⟩
      · exact List.eq_nil_of_length_eq_zero h
      · cases h
    subst h0
    refine key 0 (Nat.le_refl _) ?_
    have hr := run_append_nil (P := P) w t ty' e i z hu hi hz ad m c' news hl hnw hm (by omega) (by
      have hb2 := hb
      simp only [List.length_nil, Nat.zero_add] at hb2; omega)
    simpa using hr
  | some a =>
    refine key xs.length (Nat.le_refl _) ?_
    have holds : ∀ j u, (xs.flatMap enc)[j]? = some u → w.cell? (a.add j) = some u := (hold.ptr hle hpos) F w (fun c hc => hF _ (hM c hc)) hw
    exact run_append_grow (P := P) w t ty' e i z hu hi hz a xs.length xs.length (xs.flatMap enc) hlo holds ad m c' news hl hnw (by omega) (by omega) (growslice_fits (by omega) hb)
end
end Go.K
