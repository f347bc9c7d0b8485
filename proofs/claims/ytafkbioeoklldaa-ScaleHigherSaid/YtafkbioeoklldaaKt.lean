/-
  Ranges over functions: iterators' contracts, the statement's rule, functions that hold one.
  No conditions: plain lemmas over any program.
-/
import Derived.Test.YtafkbioeoklldaaKr
import Derived.RangeFuncOwn
set_option linter.unusedSimpArgs false
set_option linter.unusedVariables false
namespace Go.R
open Go.RowKit Go.K
/-- One object of memory. -/
def obj (b : Nat) (o : Obj) : Chunk where
  foot := fun k => k = b
  holds := fun w => w.heap[b]? = some o
  loc := fun _ _ h hk => (hk b rfl).trans h
  live := fun _ k h hk => by subst hk; exact lt_of_some h
def nul : Chunk where
  foot := fun _ => False
  holds := fun _ => True
  loc := fun _ _ _ _ => trivial
  live := fun _ _ _ h => h.elim
def dfr (b : Nat) : Chunk := obj b (.deferred (some []))
def mark (b : Nat) : Deferred := { target := .collected b, args := #[] }
/-- What is not the caller's lies as it lay. -/
def Kept (f : Nat → Prop) (w w' : World) : Prop := ∀ i, i < w.heap.size → ¬ f i → w'.heap[i]? = w.heap[i]?
theorem Kept.refl (f : Nat → Prop) (w : World) : Kept f w w := fun _ _ _ => rfl
def Grew (f : Nat → Prop) (w : World) (f' : Nat → Prop) : Prop := ∀ i, f' i → f i ∨ w.heap.size ≤ i
/-- A caller's state abides what an iterator does between two rounds: new blocks. -/
def Abides (J : Nat → (Nat → Prop) → World → Prop) : Prop := ∀ k f w w', J k f w → Below w.heap.size w w' → J k f w'
/-- One call of yield. -/
def RoundOK {α : Type} (P : Program) (lr : Nat) (enc : α → Value) (XS : List α) (J Jx : Nat → (Nat → Prop) → World → Prop) : Prop :=
  ∀ k x f w, XS[k]? = some x → J k f w → YieldAt (fen none) 0 P lr #[enc x] w fun e w' => ∃ f', Grew f w f' ∧ Kept f w w' ∧ (∀ i, f' i → i < w'.heap.size) ∧ ((e = .returned (.bool true) ∧ J (k + 1) f' w') ∨ (e = .returned (.bool false) ∧ Jx (k + 1) f' w'))
/-- The function hands yield the things of XS in order, until yield returns false. -/
def Iter {α : Type} (P : Program) (g : FuncId) (enc : α → Value) (XS : List α) : Prop :=
  ∀ (lr : Nat) (J Jx : Nat → (Nat → Prop) → World → Prop) (f : Nat → Prop) (w : World), Abides J → Abides Jx → (∀ i, f i → i < w.heap.size) → RoundOK P lr enc XS J Jx → J 0 f w →
    Calls P g #[.func (.yield lr) #[] #[]] w fun e w' => (∃ v, e = .returned v) ∧ ((∃ f', J XS.length f' w') ∨ (∃ k f', k ≤ XS.length ∧ Jx k f' w'))
/-- The rest of memory, as one chunk. -/
def oth (B : Nat) (L : List Chunk) (W : World) : Chunk where
  foot := fun i => B ≤ i ∧ i < W.heap.size ∧ ¬ ∃ c ∈ L, c.foot i
  holds := fun w => ∀ i, B ≤ i → i < W.heap.size → (¬ ∃ c ∈ L, c.foot i) → w.heap[i]? = W.heap[i]?
  loc := fun w w' h hk i h1 h2 h3 => (hk i ⟨h1, h2, h3⟩).trans (h i h1 h2 h3)
  live := fun w i h hi => by
    have := h i hi.1 hi.2.1 hi.2.2
    rw [Array.getElem?_eq_getElem hi.2.1] at this
    exact (Array.getElem?_eq_some_iff.1 this).1
/-- Three chunks as one. -/
def both (c d : Chunk) : Chunk where
  foot := fun k => c.foot k ∨ d.foot k
  holds := fun w => c.holds w ∧ d.holds w
  loc := fun w w' h hk => ⟨c.loc w w' h.1 (fun k hc => hk k (.inl hc)), d.loc w w' h.2 (fun k hd => hk k (.inr hd))⟩
  live := fun w k h hk => hk.elim (c.live w k h.1) (d.live w k h.2)
/-- How a round may be left. -/
def RP (w0 : World) (JL : Nat → List Chunk → Prop) (JX : Code → List Chunk → Prop) (k : Nat) (E : Chunk) : Exit → Act → World → Prop
  | .normal, _, w => ∃ L, JL (k + 1) L ∧ St w0 (L ++ [E]) w
  | .ret, _, w => ∃ L, JX .ret L ∧ St w0 (L ++ [E]) w
  | .exit id, _, w => ∃ L, JX (.exit id) L ∧ St w0 (L ++ [E]) w
  | _, _, _ => False
/-- Behind the assignments of a round. -/
def Body (P : Program) (w0 : World) (JL : Nat → List Chunk → Prop) (JX : Code → List Chunk → Prop) (k lr : Nat) (body : Code) (E1 : Chunk) : Act → World → Prop :=
  fun a w => ∃ l2 L2, a = frd [] l2 ∧ St w0 (L2 ++ [E1]) w ∧ ∀ E, Hold w0 (L2 ++ [E]) (body.wpIn (fen (some lr)) 0 P (RP w0 JL JX k E) (frd [] l2))
theorem body {P : Program} {w0 : World} {JL : Nat → List Chunk → Prop} {JX : Code → List Chunk → Prop} {k lr : Nat} {b : Code} {E1 : Chunk} {l2 : List Value} {L2 : List Chunk}
    (h : ∀ E, Hold w0 (L2 ++ [E]) (b.wpIn (fen (some lr)) 0 P (RP w0 JL JX k E) (frd [] l2))) : Hold w0 (L2 ++ [E1]) (Body P w0 JL JX k lr b E1 (frd [] l2)) := fun _ hw => ⟨l2, L2, rfl, hw, h⟩
theorem rp_normal {w0 : World} {JL : Nat → List Chunk → Prop} {JX : Code → List Chunk → Prop} {k : Nat} {E : Chunk} {a : Act} {L L' : List Chunk} (h : JL (k + 1) L) (hs : List.Sublist (L ++ [E]) L') : Hold w0 L' (RP w0 JL JX k E .normal a) := fun _ hw => ⟨L, h, hw.sub hs⟩
theorem rp_ret {w0 : World} {JL : Nat → List Chunk → Prop} {JX : Code → List Chunk → Prop} {k : Nat} {E : Chunk} {a : Act} {L L' : List Chunk} (h : JX .ret L) (hs : List.Sublist (L ++ [E]) L') : Hold w0 L' (RP w0 JL JX k E .ret a) := fun _ hw => ⟨L, h, hw.sub hs⟩
theorem rp_exit {w0 : World} {JL : Nat → List Chunk → Prop} {JX : Code → List Chunk → Prop} {k id : Nat} {E : Chunk} {a : Act} {L L' : List Chunk} (h : JX (.exit id) L) (hs : List.Sublist (L ++ [E]) L') : Hold w0 L' (RP w0 JL JX k E (.exit id) a) := fun _ hw => ⟨L, h, hw.sub hs⟩
theorem st_snoc {w0 w : World} {L : List Chunk} {E : Chunk} (h : St w0 L w) (hE : E.holds w) (hb : ∀ k, E.foot k → w0.heap.size ≤ k) (hd : ∀ c ∈ L, ∀ k, c.foot k → ¬ E.foot k) : St w0 (L ++ [E]) w :=
  ⟨h.1, fun c hc => by
    rcases List.mem_append.1 hc with hc | hc
    · exact h.2.1 c hc
    · simp at hc; subst hc; exact ⟨hE, hb⟩, List.pairwise_append.2 ⟨h.2.2, by simp, fun c hc d hd' k hk => by simp at hd'; subst hd'; exact hd c hc k hk⟩⟩
theorem st_front {w0 w : World} {L : List Chunk} {E : Chunk} (h : St w0 (L ++ [E]) w) : St w0 L w ∧ E.holds w ∧ (∀ k, E.foot k → w0.heap.size ≤ k) ∧ ∀ c ∈ L, ∀ k, c.foot k → ¬ E.foot k :=
  ⟨h.sub (by simp), (h.2.1 E (by simp)).1, (h.2.1 E (by simp)).2, fun c hc k hk => (List.pairwise_append.1 h.2.2).2.2 c hc E (by simp) k hk⟩
theorem st_below {w0 w w' : World} {L : List Chunk} (h : St w0 L w) (hb : Below w.heap.size w w') : St w0 L w' :=
  h.keep (hb.mono h.1.size) (fun c hc k hk => hb.block k (h.lt hc hk))
theorem st_put {w0 w : World} {L : List Chunk} {E E' : Chunk} {b : Nat} {o : Obj} (h : St w0 (L ++ [E]) w) (hb : E.foot b) (hE : E'.holds (w.putObj b o)) (hf : ∀ k, E'.foot k → E.foot k) : St w0 (L ++ [E']) (w.putObj b o) :=
  h.upd (row := some b) ⟨L, [], rfl, rfl⟩ (grownBy_putObj' w b o) (fun k hk => by cases hk; exact hb) hE (fun k hk => .inl (hf k hk))
def foots (L : List Chunk) : Nat → Prop := fun i => ∃ c ∈ L, c.foot i
theorem wide_seq {n : Nat} {P : Program} {c : Code} {r : Option Nat} {Q Q' : Exit → Act → World → Prop} {a : Act} {w : World} (h : c.wpIn (fen r) n P Q a w) (hq : ∀ e a w, Q e a w → Q' e a w) : c.wpIn (fen r) n P Q' a w := Go.wpIn_mono h hq
theorem rangeF {α : Type} {P : Program} {w0 : World} {L : List Chunk} {Q : Exit → Act → World → Prop} {l : List Value} {g : Operand} {p : Tmp} {assign body : Code} {gf : FuncId} {enc : α → Value} {XS : List α} {n : Nat}
    (hg : ev l g = .func (.func gf) #[] #[]) (hcal : callable P gf = true) (hit : Iter P gf enc XS) (JL : Nat → List Chunk → Prop) (JX : Code → List Chunk → Prop) (h0 : JL 0 L)
    (round : ∀ k x L' lr E, XS[k]? = some x → JL k L' → Hold w0 (L' ++ [E]) (assign.wpIn (fen (some lr)) 0 P (Exit.then (Body P w0 JL JX k lr body E) (fun _ _ _ => False)) (frd [] (setn l p (enc x)))))
    (done : ∀ b L', JL XS.length L' → Hold w0 (L' ++ [dfr b]) (Q .normal (frd [mark b] l)))
    (stop : ∀ b c L', JX c L' → Hold w0 (L' ++ [dfr b]) (c.wpIn (fen none) n P Q (frd [mark b] l))) :
    Hold w0 L ((Code.rangeFunc g #[p] assign body).wpIn (fen none) n P Q (frd [] l)) := by
  intro w hw
  refine wpIn_rangeFunc ?_
  intro fn hfn
  obtain ⟨rc, hrc⟩ : ∃ rc : LoopState → Option Code → Loop, rc = fun st pe => { state := st, pending := pe, fn, tmps := l.toArray, params := #[p], assign, body, defers := w.heap.size } := ⟨_, rfl⟩
  obtain ⟨W1, hW1⟩ : ∃ W1, (w.alloc (.deferred (some []))).alloc (.loop (rc .ready none)) = W1 := ⟨_, rfl⟩
  obtain ⟨rd, hrd⟩ : ∃ rd : Chunk, rd = both (obj (w.heap.size + 1) (.loop (rc .ready none))) (dfr w.heap.size) := ⟨_, rfl⟩
  have hfr : ∀ (s : LoopState) (pe : Option Code) k, (both (obj (w.heap.size + 1) (.loop (rc s pe))) (dfr w.heap.size)).foot k ↔ (k = w.heap.size + 1 ∨ k = w.heap.size) := fun _ _ _ => Iff.rfl
  have hst1 : St w0 (L ++ [rd]) W1 := by
    have hb1 : Below w.heap.size w W1 := by
      rw [← hW1]; exact ((Below.refl _ w).alloc (Nat.le_refl _) _).alloc (by simp) _
    refine st_snoc (st_below hw hb1) ?_ (fun k hk => ?_) (fun c hc k hk hk' => ?_)
    · subst hrd
      refine ⟨?_, ?_⟩
      · show W1.heap[w.heap.size + 1]? = _
        rw [← hW1]; have := World.alloc_heap_new (w.alloc (.deferred (some []))) (.loop (rc .ready none)); rwa [World.size_alloc] at this
      · show W1.heap[w.heap.size]? = _
        rw [← hW1]; exact (Below.heap_alloc _ _ _ (by simp)).trans (World.alloc_heap_new w _)
    · subst hrd
      have := hw.1.size
      rcases hk with hk | hk
      · have : k = w.heap.size + 1 := hk
        omega
      · have : k = w.heap.size := hk
        omega
    · subst hrd
      have := hw.lt hc hk
      rcases hk' with hk' | hk'
      · have : k = w.heap.size + 1 := hk'
        omega
      · have : k = w.heap.size := hk'
        omega
  refine ⟨w.heap.size + 1, [mark w.heap.size], W1, { target := .fn (.func gf) #[], args := #[.func (.yield (w.heap.size + 1)) #[] #[]] }, W1, gf,
    #[.func (.yield (w.heap.size + 1)) #[] #[]], W1, ?_, ?_, fun _ _ => trivial, ?_, fun h => (by cases h), ?_⟩
  · rw [← hW1, hrc]; exact run_enterLoop_outer _ _ _ _ _
  · have he : (frd [] l).eval g = .func (.func gf) #[] #[] := by rw [frd_eval]; exact hg
    simp only [resolve, he]
    simp [go_sem]
  · simp [invoke, go_sem, run_call hcal]
  · refine calls_fen ((hit (w.heap.size + 1)
      (fun k f W => ∃ L', JL k L' ∧ St w0 (L' ++ [rd]) W ∧ f = foots (L' ++ [rd]))
      (fun k f W => ∃ c L', JX c L' ∧ St w0 (L' ++ [both (obj (w.heap.size + 1) (.loop (rc .done (some c)))) (dfr w.heap.size)]) W)
      (foots (L ++ [rd])) W1 ?_ ?_ ?_ ?_ ⟨L, h0, hst1, rfl⟩).mono ?_)
    · rintro k f W W' ⟨L', h1, h2, h3⟩ hb
      exact ⟨L', h1, st_below h2 hb, h3⟩
    · rintro k f W W' ⟨c, L', h1, h2⟩ hb
      exact ⟨c, L', h1, st_below h2 hb⟩
    · rintro i ⟨c, hc, hi⟩
      exact hst1.lt hc hi
    · -- one round
      rintro k x f W hx ⟨L', hJ, hst, rfl⟩
      have hl : W.heap[w.heap.size + 1]? = some (.loop (rc .ready none)) := by
        have := (st_front hst).2.1
        subst hrd; exact this.1
      have hy := run_yield (P := P) (args := #[enc x]) hl (by rw [hrc]; rfl)
      have hy' : (Instr.yield (w.heap.size + 1) #[enc x]).run P W = .ok (.round (w.heap.size + 1) fn (setn l p (enc x)).toArray assign body) W := by
        rw [hy, hrc]
        congr 2
        simp [setn_eq]
      refine ⟨fn, _, assign, body, hy', roundIn_of_wpIn trivial ?_⟩
      obtain ⟨ot, hot⟩ : ∃ ot : Chunk, ot = oth w0.heap.size (L' ++ [rd]) W := ⟨_, rfl⟩
      have hf := st_front hst
      have hE1 : St w0 (L' ++ [both rd ot]) W := by
        refine st_snoc hf.1 ⟨hf.2.1, ?_⟩ (fun i hi => ?_) (fun c hc i hi hi' => ?_)
        · subst hot; exact fun _ _ _ _ => rfl
        · rcases hi with hi | hi
          · exact hf.2.2.1 i hi
          · subst hot; exact hi.1
        · rcases hi' with hi' | hi'
          · exact hf.2.2.2 c hc i hi hi'
          · subst hot; exact hi'.2.2 ⟨c, by simp [hc], hi⟩
      refine wide_seq (r := some (w.heap.size + 1)) (round k x L' (w.heap.size + 1) (both rd ot) hx hJ W hE1) ?_
      rintro e a1 w1 hp
      cases e with
      | normal =>
        obtain ⟨l2, L2, rfl, hst2, hbody⟩ := hp
        have hf2 := st_front hst2
        have hl2 : w1.heap[w.heap.size + 1]? = some (.loop (rc .ready none)) := by
          have h1 := hf2.2.1.1
          subst hrd; exact h1.1
        have hd2 : w1.heap[w.heap.size]? = some (.deferred (some [])) := by
          have h1 := hf2.2.1.1
          subst hrd; exact h1.2
        refine ⟨_, run_beginRound hl2 (by rw [hrc]), ?_⟩
        obtain ⟨rb, hrb⟩ : ∃ rb : Chunk, rb = both (obj (w.heap.size + 1) (.loop (rc .busy none))) (dfr w.heap.size) := ⟨_, rfl⟩
        have hlt : ∀ {W : World} {o : Obj}, W.heap[w.heap.size + 1]? = some o → w.heap.size + 1 < W.heap.size := fun h => lt_of_some h
        have hfoot : ∀ k, rb.foot k ↔ rd.foot k := fun k => by subst hrb; subst hrd; exact Iff.rfl
        have hrdl : rd.foot (w.heap.size + 1) := by subst hrd; exact .inl rfl
        have hrdd : rd.foot w.heap.size := by subst hrd; exact .inr rfl
        have hotn : ∀ {W' : World} {o : Obj}, ot.holds W' → ot.holds (W'.putObj (w.heap.size + 1) o) := fun h => by
          refine ot.loc _ _ h (fun k hk => World.putObj_heap_other (fun e => ?_))
          subst hot; subst e
          exact hk.2.2 ⟨rd, by simp, hrdl⟩
        have hst3 : St w0 (L2 ++ [both rb ot]) (w1.putObj (w.heap.size + 1) (.loop (rc .busy none))) := by
          refine st_put hst2 (.inl hrdl) ⟨?_, hotn hf2.2.1.2⟩ (fun k hk => ?_)
          · subst hrb
            exact ⟨World.putObj_heap_same (hlt hl2), (World.putObj_heap_other (by omega)).trans hd2⟩
          · rcases hk with hk | hk
            · exact .inl ((hfoot k).1 hk)
            · exact .inr hk
        have e0 : ({ rc .ready none with state := .busy } : Loop) = rc .busy none := by rw [hrc]
        rw [e0]
        refine wide_seq (r := some (w.heap.size + 1)) (hbody (both rb ot) _ hst3) ?_
        -- what a round's end owes
        have fin : ∀ (jump : Option Code) (w3 : World) (L3 : List Chunk), St w0 (L3 ++ [both rb ot]) w3 →
            (Instr.endRound (w.heap.size + 1) jump).run P w3 = .ok (.bool jump.isNone) (w3.putObj (w.heap.size + 1) (.loop (rc (if jump.isNone then .ready else .done) jump))) ∧
            St w0 (L3 ++ [both (obj (w.heap.size + 1) (.loop (rc (if jump.isNone then .ready else .done) jump))) (dfr w.heap.size)]) (w3.putObj (w.heap.size + 1) (.loop (rc (if jump.isNone then .ready else .done) jump))) ∧
            Grew (foots (L' ++ [rd])) W (foots (L3 ++ [rd])) ∧ Kept (foots (L' ++ [rd])) W (w3.putObj (w.heap.size + 1) (.loop (rc (if jump.isNone then .ready else .done) jump))) ∧
            ∀ i, foots (L3 ++ [rd]) i → i < (w3.putObj (w.heap.size + 1) (.loop (rc (if jump.isNone then .ready else .done) jump))).heap.size := by
          intro jump w3 L3 hst4
          have hf4 := st_front hst4
          have h1 := hf4.2.1.1
          have hl4 : w3.heap[w.heap.size + 1]? = some (.loop (rc .busy none)) := by subst hrb; exact h1.1
          have hd4 : w3.heap[w.heap.size]? = some (.deferred (some [])) := by subst hrb; exact h1.2
          have hs4 : St w0 (L3 ++ [both (obj (w.heap.size + 1) (.loop (rc (if jump.isNone then .ready else .done) jump))) (dfr w.heap.size)]) (w3.putObj (w.heap.size + 1) (.loop (rc (if jump.isNone then .ready else .done) jump))) := by
            refine st_put hst4 (.inl ((hfoot _).2 hrdl)) ⟨World.putObj_heap_same (hlt hl4), (World.putObj_heap_other (by omega)).trans hd4⟩ (fun k hk => .inl ((hfoot k).2 ?_))
            subst hrd; exact hk
          refine ⟨?_, hs4, ?_, ?_, ?_⟩
          · have := run_endRound (P := P) jump hl4
            rw [this, hrc]
          · rintro i ⟨c, hc, hi⟩
            by_cases hfi : foots (L' ++ [rd]) i
            · exact .inl hfi
            · refine .inr (Nat.le_of_not_lt fun hlt' => ?_)
              rcases List.mem_append.1 hc with hc | hc
              · refine hf4.2.2.2 c hc i hi (.inr ?_)
                subst hot
                exact ⟨(hst4.2.1 c (by simp [hc])).2 i hi, hlt', hfi⟩
              · simp at hc; subst hc; exact hfi ⟨c, by simp, hi⟩
          · intro i hi hni
            have hne : i ≠ w.heap.size + 1 := fun e => hni ⟨rd, by simp, by subst e; exact hrdl⟩
            rw [World.putObj_heap_other (by omega)]
            rcases Nat.lt_or_ge i w0.heap.size with h2 | h2
            · rw [hst4.1.block i h2, hst.1.block i h2]
            · have h3 := hf4.2.1.2
              subst hot
              exact h3 i h2 hi hni
          · rintro i ⟨c, hc, hi⟩
            rcases List.mem_append.1 hc with hc | hc
            · exact hs4.lt (c := c) (by simp [hc]) hi
            · simp at hc
              refine hs4.lt (c := both (obj (w.heap.size + 1) (.loop (rc (if jump.isNone then .ready else .done) jump))) (dfr w.heap.size)) (by simp) ?_
              subst hc; subst hrd; exact hi
        rintro e a3 w3 hq
        cases e with
        | normal =>
          obtain ⟨L3, hJ3, hst4⟩ := hq
          obtain ⟨hr, hs, hgr, hk, hlt3⟩ := fin none w3 L3 hst4
          exact ⟨_, _, hr, _, hgr, hk, hlt3, .inl ⟨rfl, L3, hJ3, by subst hrd; exact hs, rfl⟩⟩
        | ret =>
          obtain ⟨L3, hJ3, hst4⟩ := hq
          obtain ⟨hr, hs, hgr, hk, hlt3⟩ := fin (some .ret) w3 L3 hst4
          exact ⟨_, _, hr, _, hgr, hk, hlt3, .inr ⟨rfl, _, L3, hJ3, hs⟩⟩
        | exit id =>
          obtain ⟨L3, hJ3, hst4⟩ := hq
          obtain ⟨hr, hs, hgr, hk, hlt3⟩ := fin (some (.exit id)) w3 L3 hst4
          exact ⟨_, _, hr, _, hgr, hk, hlt3, .inr ⟨rfl, _, L3, hJ3, hs⟩⟩
        | _ => exact (show False from hq).elim
      | _ => exact (show False from hp).elim
    · -- the function has returned
      rintro e w3 ⟨⟨v, rfl⟩, hh⟩
      have hdef : ({ frd [] l with defers := [mark w.heap.size] ++ (frd [] l).defers } : Act) = frd [mark w.heap.size] l := rfl
      rw [hdef]
      rcases hh with ⟨f', L', hJ, hst, _⟩ | ⟨k, f', _, c, L', hJ, hst⟩
      · have hf := st_front hst
        have hl3 : w3.heap[w.heap.size + 1]? = some (.loop (rc .ready none)) := by
          have h1 := hf.2.1
          subst hrd; exact h1.1
        have hd3 : w3.heap[w.heap.size]? = some (.deferred (some [])) := by
          have h1 := hf.2.1
          subst hrd; exact h1.2
        have hend := run_endLoop (P := P) hl3 (by rw [hrc]; simp)
        refine ⟨_, _, hend, ?_⟩
        have e1 : (rc .ready none).pending = none := by rw [hrc]
        rw [e1]
        refine done _ L' hJ _ (st_put hst (by subst hrd; exact .inl rfl) ?_ (fun k hk => by subst hrd; exact .inr hk))
        exact (World.putObj_heap_other (by omega)).trans hd3
      · have hf := st_front hst
        have hl3 : w3.heap[w.heap.size + 1]? = some (.loop (rc .done (some c))) := hf.2.1.1
        have hd3 : w3.heap[w.heap.size]? = some (.deferred (some [])) := hf.2.1.2
        have hend := run_endLoop (P := P) hl3 (by rw [hrc]; simp)
        refine ⟨_, _, hend, ?_⟩
        have e1 : (rc .done (some c)).pending = some c := by rw [hrc]
        rw [e1]
        refine stop _ c L' hJ _ (st_put hst (.inl rfl) ?_ (fun k hk => .inr hk))
        exact (World.putObj_heap_other (by omega)).trans hd3
end Go.R
