/-
  Plain lemmas and plain functions, several texts joined.
  Conditions stand in each theorem.
-/
import Derived.Test.YtoemnobfnnjopaaDoorK3
set_option linter.unusedSimpArgs false
set_option linter.unusedVariables false
/-
  Ranges over functions that hold variables; iterators over iterators.
  No conditions: plain lemmas over any program.
-/
namespace Go.R
open Go.RowKit Go.K
/-- A caller's state abides what an iterator does that began when the heap's size was B: changes of blocks from B on that are not the state's own. -/
def Stays (B : Nat) (J : Nat → (Nat → Prop) → World → Prop) : Prop := ∀ k f w w', J k f w → Below B w w' → (∀ i, f i → w'.heap[i]? = w.heap[i]?) → J k f w'
theorem Stays.below {B : Nat} {J : Nat → (Nat → Prop) → World → Prop} (h : Stays B J) {k : Nat} {f : Nat → Prop} {w w' : World} (hJ : J k f w) (hf : ∀ i, f i → i < w.heap.size) (hB : B ≤ w.heap.size) (hb : Below w.heap.size w w') : J k f w' :=
  h k f w w' hJ (hb.mono hB) (fun i hi => hb.block i (hf i hi))
/-- The function, with what it holds, hands yield the things of XS in order, until yield returns false. -/
def IterC {α : Type} (P : Program) (g : FuncId) (first cap : List Value) (pre : (Nat → Prop) → World → Prop) (enc : α → Value) (XS : List α) : Prop :=
  ∀ (lr B : Nat) (J Jx : Nat → (Nat → Prop) → World → Prop) (f : Nat → Prop) (w : World), B ≤ w.heap.size → Stays B J → Stays B Jx → (∀ i, f i → i < w.heap.size) → RoundOK P lr enc XS J Jx → J 0 f w → pre f w →
    Calls P g (first ++ [Value.func (.yield lr) #[] #[]] ++ cap).toArray w fun e w' => (∃ v, e = .returned v) ∧ ((∃ f', J XS.length f' w') ∨ (∃ k f', k ≤ XS.length ∧ Jx k f' w'))
/-- From E on the fixed blocks F are as they were. -/
theorem fix_expand {w0 W w : World} {L L3 F : List Chunk} {rd rb : Chunk} (hF : ∀ c ∈ F, ∃ b t cs, c = blk b t cs) (hfoot : ∀ k, rb.foot k ↔ rd.foot k) (hW : St w0 (L ++ (F ++ [rd])) W) (hst : St w0 (L3 ++ [both rb (oth w0.heap.size (L ++ [rd]) W)]) w) : St w0 (L3 ++ (F ++ [rb])) w := by
  have h3 := st_front hst
  have hp := List.pairwise_append.1 hW.2.2
  have hpF := List.pairwise_append.1 hp.2.1
  have hin : ∀ c ∈ F, ∀ k, c.foot k → (oth w0.heap.size (L ++ [rd]) W).foot k := fun c hc k hk => by
    refine ⟨(hW.2.1 c (by simp [hc])).2 k hk, hW.lt (c := c) (by simp [hc]) hk, ?_⟩
    rintro ⟨d, hd, hdk⟩
    rcases List.mem_append.1 hd with hd | hd
    · exact hp.2.2 d hd c (by simp [hc]) k hdk hk
    · exact hpF.2.2 c hc d hd k hk hdk
  refine ⟨h3.1.1, fun c hc => ?_, ?_⟩
  · rcases List.mem_append.1 hc with hc | hc
    · exact h3.1.2.1 c hc
    rcases List.mem_append.1 hc with hc | hc
    · obtain ⟨b, t, cs, rfl⟩ := hF c hc
      have h1 := hW.2.1 (blk b t cs) (by simp [hc])
      have h2 := hin _ hc b rfl
      refine ⟨?_, h1.2⟩
      show w.heap[b]? = _
      rw [h3.2.1.2 b h2.1 h2.2.1 h2.2.2]
      exact h1.1
    · simp at hc; subst hc
      exact ⟨h3.2.1.1, fun k hk => h3.2.2.1 k (.inl hk)⟩
  · refine List.pairwise_append.2 ⟨h3.1.2.2, List.pairwise_append.2 ⟨hpF.1, by simp, fun c hc d hd k hk hk' => ?_⟩, fun c hc d hd k hk hk' => ?_⟩
    · simp at hd; subst hd
      exact hpF.2.2 c hc rd (by simp) k hk ((hfoot k).1 hk')
    · rcases List.mem_append.1 hd with hd | hd
      · exact h3.2.2.2 c hc k hk (.inr (hin d hd k hk'))
      · simp at hd; subst hd
        exact h3.2.2.2 c hc k hk (.inl hk')
theorem fix_in {w0 W : World} {L F : List Chunk} {rd : Chunk} (hW : St w0 (L ++ (F ++ [rd])) W) : St w0 (L ++ [both rd (oth w0.heap.size (L ++ [rd]) W)]) W := by
  have h1 : St w0 (L ++ [rd]) W := hW.sub (List.Sublist.append (List.Sublist.refl _) (List.sublist_append_right _ _))
  have hf := st_front h1
  refine st_snoc hf.1 ⟨hf.2.1, fun _ _ _ _ => rfl⟩ (fun i hi => ?_) (fun c hc i hi hi' => ?_)
  · rcases hi with hi | hi
    · exact hf.2.2.1 i hi
    · exact hi.1
  · rcases hi' with hi' | hi'
    · exact hf.2.2.2 c hc i hi hi'
    · exact hi'.2.2 ⟨c, by simp [hc], hi⟩
theorem fix_ptr {w0 W : World} {L F : List Chunk} {rd rb : Chunk} (hW : St w0 (L ++ (F ++ [rd])) W) {b : Nat} {t : TypeId} {cs : List Value} (hm : blk b t cs ∈ F) : PtrL w0 [both rb (oth w0.heap.size (L ++ [rd]) W)] ⟨b, 0, none⟩ cs := fun Fr w hFr hw j u hu => by
  have hp := List.pairwise_append.1 hW.2.2
  have hpF := List.pairwise_append.1 hp.2.1
  have h1 := hW.2.1 (blk b t cs) (by simp [hm])
  have h2 := (hw.2.1 (both rb (oth w0.heap.size (L ++ [rd]) W)) (hFr _ (by simp))).1.2
  have h3 : w.heap[b]? = some (.cells cs.toArray t (0, 0)) := by
    rw [h2 b (h1.2 b rfl) (hW.lt (c := blk b t cs) (by simp [hm]) rfl) ?_]
    · exact h1.1
    · rintro ⟨d, hd, hdk⟩
      rcases List.mem_append.1 hd with hd | hd
      · exact hp.2.2 d hd (blk b t cs) (by simp [hm]) b hdk rfl
      · exact hpF.2.2 (blk b t cs) hm d hd b rfl hdk
  rw [add_lit, Nat.zero_add, blk_cell (t := t) (cs := cs) (show (blk b t cs).holds w from h3)]
  exact hu
/-- What an iterator's precondition may lean on. -/
def Free (w0 : World) (F : List Chunk) (f : Nat → Prop) (w : World) : Prop := St w0 F w ∧ (∀ c ∈ F, ∀ i, c.foot i → ¬ f i) ∧ ∀ i, i < w0.heap.size → ¬ f i
theorem Free.own1 {w0 w : World} {F : List Chunk} {f : Nat → Prop} (h : Free w0 F f w) {b : Nat} {t : TypeId} {cs : List Value} (hm : blk b t cs ∈ F) : Own1 f w ⟨b, 0, none⟩ cs :=
  ⟨h.1.lt hm rfl, h.2.1 _ hm b rfl, fun j u hu => by rw [add_lit, Nat.zero_add]; exact cell_now h.1 hm hu⟩
theorem Free.old1 {w0 w : World} {F : List Chunk} {f : Nat → Prop} (h : Free w0 F f w) {p : Addr} {us : List Value} (hp : PtrL w0 [] p us) (hb : p.block < w0.heap.size) : Own1 f w p us :=
  ⟨Nat.lt_of_lt_of_le hb h.1.1.size, h.2.2 _ hb, hp F w (by simp) h.1⟩
/-- Behind the assignments of a round, where some blocks are fixed. -/
def BodyC (P : Program) (w0 : World) (F : List Chunk) (JL : Nat → List Chunk → Prop) (JX : Code → List Chunk → Prop) (k lr : Nat) (body : Code) (E1 : Chunk) : Act → World → Prop :=
  fun a w => ∃ l2 L2, a = frd [] l2 ∧ St w0 (L2 ++ [E1]) w ∧ ∀ E, (∀ b t cs, blk b t cs ∈ F → PtrL w0 [E] ⟨b, 0, none⟩ cs) → Hold w0 (L2 ++ [E]) (body.wpIn (fen (some lr)) 0 P (RP w0 JL JX k E) (frd [] l2))
theorem bodyC' {P : Program} {w0 : World} {F : List Chunk} {JL : Nat → List Chunk → Prop} {JX : Code → List Chunk → Prop} {k lr : Nat} {c : Code} {E1 : Chunk} {l2 : List Value} {L : List Chunk} (hL : L = L.dropLast ++ [E1])
    (h : ∀ E, (∀ b t cs, blk b t cs ∈ F → PtrL w0 [E] ⟨b, 0, none⟩ cs) → Hold w0 (L.dropLast ++ [E]) (c.wpIn (fen (some lr)) 0 P (RP w0 JL JX k E) (frd [] l2))) : Hold w0 L (BodyC P w0 F JL JX k lr c E1 (frd [] l2)) := by
  rw [hL]; exact fun w hw => ⟨l2, L.dropLast, rfl, hw, h⟩
theorem own_later {w0 w : World} {F : List Chunk} {b : Nat} {t : TypeId} {cs : List Value} (hw : St w0 F w) (hm : blk b t cs ∈ F) {f : Nat → Prop} {w' : World} (hb : Below w.heap.size w w') (hf : ∀ i, i < w.heap.size → ¬ f i) : Own1 f w' ⟨b, 0, none⟩ cs :=
  ⟨Nat.lt_of_lt_of_le (hw.lt hm rfl) hb.size, hf b (hw.lt hm rfl), fun j u hu => by rw [add_lit, Nat.zero_add]; exact K.cell_later hw hm hu hb⟩
theorem old_own {w w' : World} {p : Addr} {us : List Value} (hp : PtrL w [] p us) (hpb : p.block < w.heap.size) {f : Nat → Prop} (hb : Below w.heap.size w w') (hf : ∀ i, i < w.heap.size → ¬ f i) : Own1 f w' p us :=
  ⟨Nat.lt_of_lt_of_le hpb hb.size, hf _ hpb, fun j u hu => (hb.cell (p := p.add j) (by rw [addr_block]; exact hpb)).trans (hp [] w (by simp) (St.start w) j u hu)⟩
theorem rangeC {α : Type} {P : Program} {w0 : World} {L : List Chunk} {Q : Exit → Act → World → Prop} {l : List Value} {g : Operand} {p : Tmp} {assign body : Code} {gf : FuncId} {first cap : List Value} {pre : (Nat → Prop) → World → Prop} {enc : α → Value} {XS : List α} {n : Nat} {D : List Deferred}
    (hg : ev l g = .func (.func gf) first.toArray cap.toArray) (hcal : callable P gf = true) (Lm F : List Chunk) (hsp : ∀ w, St w0 L w → St w0 (Lm ++ F) w) (hF : ∀ c ∈ F, ∃ b t cs, c = blk b t cs) (hit : IterC P gf first cap pre enc XS) (hpre : ∀ f w, Free w0 F f w → pre f w)
    (JL : Nat → List Chunk → Prop) (JX : Code → List Chunk → Prop) (h0 : JL 0 Lm)
    (round : ∀ k x L' lr E, XS[k]? = some x → (∀ b t cs, blk b t cs ∈ F → PtrL w0 [E] ⟨b, 0, none⟩ cs) → JL k L' → Hold w0 (L' ++ [E]) (assign.wpIn (fen (some lr)) 0 P (Exit.then (BodyC P w0 F JL JX k lr body E) (fun _ _ _ => False)) (frd [] (setn l p (enc x)))))
    (done : ∀ b L', JL XS.length L' → Hold w0 (L' ++ (F ++ [dfr b])) (Q .normal (frd (mark b :: D) l)))
    (stop : ∀ b c L', JX c L' → Hold w0 (L' ++ (F ++ [dfr b])) (c.wpIn (fen none) n P Q (frd (mark b :: D) l))) :
    Hold w0 L ((Code.rangeFunc g #[p] assign body).wpIn (fen none) n P Q (frd D l)) := by
  intro w hw0
  have hw := hsp w hw0
  refine wpIn_rangeFunc ?_
  intro fn hfn
  obtain ⟨rc, hrc⟩ : ∃ rc : LoopState → Option Code → Loop, rc = fun st pe => { state := st, pending := pe, fn, tmps := l.toArray, params := #[p], assign, body, defers := w.heap.size } := ⟨_, rfl⟩
  obtain ⟨W1, hW1⟩ : ∃ W1, (w.alloc (.deferred (some []))).alloc (.loop (rc .ready none)) = W1 := ⟨_, rfl⟩
  obtain ⟨rd, hrd⟩ : ∃ rd : Chunk, rd = both (obj (w.heap.size + 1) (.loop (rc .ready none))) (dfr w.heap.size) := ⟨_, rfl⟩
  have hst1' : St w0 ((Lm ++ F) ++ [rd]) W1 := by
    have hb1 : Below w.heap.size w W1 := by
      rw [← hW1]; exact ((Below.refl _ w).alloc (Nat.le_refl _) _).alloc (by simp) _
    refine st_snoc (st_below hw hb1) ?_ (fun k hk => ?_) (fun c hc k hk hk' => ?_)
    · subst hrd
      refine ⟨?_, ?_⟩
      · show W1.heap[w.heap.size + 1]? = _
        rw [← hW1]; have := World.alloc_heap_new (w.alloc (.deferred (some []))) (.loop (rc .ready none)); rwa [World.size_alloc] at this
      · show W1.heap[w.heap.size]? = _
        rw [← hW1]; exact (Below.heap_alloc _ _ _ (by simp)).trans (World.alloc_heap_new w _)
    · subst hrd
      have := hw.1.size
      rcases hk with hk | hk
      · have : k = w.heap.size + 1 := hk
        omega
      · have : k = w.heap.size := hk
        omega
    · subst hrd
      have := hw.lt hc hk
      rcases hk' with hk' | hk'
      · have : k = w.heap.size + 1 := hk'
        omega
      · have : k = w.heap.size := hk'
        omega
  have hst1 : St w0 (Lm ++ (F ++ [rd])) W1 := by rw [← List.append_assoc]; exact hst1'
  have hsub : ∀ {L' : List Chunk} {x : Chunk} {W : World}, St w0 (L' ++ (F ++ [x])) W → St w0 (L' ++ [x]) W := fun h => h.sub (List.Sublist.append (List.Sublist.refl _) (List.sublist_append_right _ _))
  have hfree : ∀ {L' : List Chunk} {W : World}, St w0 (L' ++ (F ++ [rd])) W → Free w0 F (foots (L' ++ [rd])) W := fun {L'} {W} h => by
    have hp := List.pairwise_append.1 h.2.2
    have hpF := List.pairwise_append.1 hp.2.1
    refine ⟨h.sub ((List.sublist_append_left F [rd]).trans (List.sublist_append_right _ _)), fun c hc i hi => ?_, fun i hi => ?_⟩
    · rintro ⟨d, hd, hdi⟩
      rcases List.mem_append.1 hd with hd | hd
      · exact hp.2.2 d hd c (by simp [hc]) i hdi hi
      · exact hpF.2.2 c hc d hd i hi hdi
    · rintro ⟨d, hd, hdi⟩
      have := ((hsub h).2.1 d hd).2 i hdi
      omega
  have hFW : ∀ c ∈ F, ∀ i, c.foot i → i < W1.heap.size := fun c hc i hi => hst1.lt (c := c) (by simp [hc]) hi
  refine ⟨w.heap.size + 1, [mark w.heap.size], W1, { target := .fn (.func gf) cap.toArray, args := first.toArray ++ #[Value.func (.yield (w.heap.size + 1)) #[] #[]] }, W1, gf,
    (first ++ [Value.func (.yield (w.heap.size + 1)) #[] #[]] ++ cap).toArray, W1, ?_, ?_, fun _ _ => trivial, ?_, fun h => (by cases h), ?_⟩
  · rw [← hW1, hrc]; exact run_enterLoop_outer _ _ _ _ _
  · have he : (frd D l).eval g = .func (.func gf) first.toArray cap.toArray := by rw [frd_eval]; exact hg
    simp only [resolve, he]
    simp [go_sem]
  · simp [invoke, go_sem, run_call hcal]
  · refine calls_fen ((hit (w.heap.size + 1) W1.heap.size
      (fun k f W => ∃ L', JL k L' ∧ St w0 (L' ++ (F ++ [rd])) W ∧ f = foots (L' ++ [rd]))
      (fun k f W => ∃ c L', JX c L' ∧ St w0 (L' ++ (F ++ [both (obj (w.heap.size + 1) (.loop (rc .done (some c)))) (dfr w.heap.size)])) W ∧ f = foots (L' ++ [rd]))
      (foots (Lm ++ [rd])) W1 (Nat.le_refl _) ?_ ?_ ?_ ?_ ⟨Lm, h0, hst1, rfl⟩ (hpre _ _ (hfree hst1))).mono ?_)
    · rintro k f W W' ⟨L', h1, h2, rfl⟩ hb hs
      refine ⟨L', h1, h2.keep (hb.mono hst1.1.size) (fun c hc i hi => ?_), rfl⟩
      rcases List.mem_append.1 hc with hc | hc
      · exact hs i ⟨c, by simp [hc], hi⟩
      rcases List.mem_append.1 hc with hc | hc
      · exact hb.block i (hFW c hc i hi)
      · exact hs i ⟨c, by simp [List.mem_singleton.1 hc], hi⟩
    · rintro k f W W' ⟨c0, L', h1, h2, rfl⟩ hb hs
      refine ⟨c0, L', h1, h2.keep (hb.mono hst1.1.size) (fun c hc i hi => ?_), rfl⟩
      rcases List.mem_append.1 hc with hc | hc
      · exact hs i ⟨c, by simp [hc], hi⟩
      rcases List.mem_append.1 hc with hc | hc
      · exact hb.block i (hFW c hc i hi)
      · refine hs i ⟨rd, by simp, ?_⟩
        have := List.mem_singleton.1 hc
        subst this; subst hrd; exact hi
    · rintro i ⟨c, hc, hi⟩
      exact (hsub hst1).lt hc hi
    · -- one round
      rintro k x f W hx ⟨L', hJ, hstF, rfl⟩
      have hst := hsub hstF
      have hl : W.heap[w.heap.size + 1]? = some (.loop (rc .ready none)) := by
        have := (st_front hst).2.1
        subst hrd; exact this.1
      have hy := run_yield (P := P) (args := #[enc x]) hl (by rw [hrc]; rfl)
      have hy' : (Instr.yield (w.heap.size + 1) #[enc x]).run P W = .ok (.round (w.heap.size + 1) fn (setn l p (enc x)).toArray assign body) W := by
        rw [hy, hrc]
        congr 2
        simp [setn_eq]
      refine ⟨fn, _, assign, body, hy', roundIn_of_wpIn trivial ?_⟩
      obtain ⟨ot, hot⟩ : ∃ ot : Chunk, ot = oth w0.heap.size (L' ++ [rd]) W := ⟨_, rfl⟩
      have hf := st_front hst
      have hE1 : St w0 (L' ++ [both rd ot]) W := by subst hot; exact fix_in hstF
      refine wide_seq (r := some (w.heap.size + 1)) (round k x L' (w.heap.size + 1) (both rd ot) hx (fun b t cs hm => by subst hot; exact fix_ptr hstF hm) hJ W hE1) ?_
      rintro e a1 w1 hp
      cases e with
      | normal =>
        obtain ⟨l2, L2, rfl, hst2, hbody⟩ := hp
        have hf2 := st_front hst2
        have hl2 : w1.heap[w.heap.size + 1]? = some (.loop (rc .ready none)) := by
          have h1 := hf2.2.1.1
          subst hrd; exact h1.1
        have hd2 : w1.heap[w.heap.size]? = some (.deferred (some [])) := by
          have h1 := hf2.2.1.1
          subst hrd; exact h1.2
        refine ⟨_, run_beginRound hl2 (by rw [hrc]), ?_⟩
        obtain ⟨rb, hrb⟩ : ∃ rb : Chunk, rb = both (obj (w.heap.size + 1) (.loop (rc .busy none))) (dfr w.heap.size) := ⟨_, rfl⟩
        have hlt : ∀ {W : World} {o : Obj}, W.heap[w.heap.size + 1]? = some o → w.heap.size + 1 < W.heap.size := fun h => lt_of_some h
        have hfoot : ∀ k, rb.foot k ↔ rd.foot k := fun k => by subst hrb; subst hrd; exact Iff.rfl
        have hrdl : rd.foot (w.heap.size + 1) := by subst hrd; exact .inl rfl
        have hrdd : rd.foot w.heap.size := by subst hrd; exact .inr rfl
        have hotn : ∀ {W' : World} {o : Obj}, ot.holds W' → ot.holds (W'.putObj (w.heap.size + 1) o) := fun h => by
          refine ot.loc _ _ h (fun k hk => World.putObj_heap_other (fun e => ?_))
          subst hot; subst e
          exact hk.2.2 ⟨rd, by simp, hrdl⟩
        have hst3 : St w0 (L2 ++ [both rb ot]) (w1.putObj (w.heap.size + 1) (.loop (rc .busy none))) := by
          refine st_put hst2 (.inl hrdl) ⟨?_, hotn hf2.2.1.2⟩ (fun k hk => ?_)
          · subst hrb
            exact ⟨World.putObj_heap_same (hlt hl2), (World.putObj_heap_other (by omega)).trans hd2⟩
          · rcases hk with hk | hk
            · exact .inl ((hfoot k).1 hk)
            · exact .inr hk
        have e0 : ({ rc .ready none with state := .busy } : Loop) = rc .busy none := by rw [hrc]
        rw [e0]
        refine wide_seq (r := some (w.heap.size + 1)) (hbody (both rb ot) (fun b t cs hm => by subst hot; exact fix_ptr hstF hm) _ hst3) ?_
        -- what a round's end owes
        have fin : ∀ (jump : Option Code) (w3 : World) (L3 : List Chunk), St w0 (L3 ++ [both rb ot]) w3 →
            (Instr.endRound (w.heap.size + 1) jump).run P w3 = .ok (.bool jump.isNone) (w3.putObj (w.heap.size + 1) (.loop (rc (if jump.isNone then .ready else .done) jump))) ∧
            St w0 (L3 ++ (F ++ [both (obj (w.heap.size + 1) (.loop (rc (if jump.isNone then .ready else .done) jump))) (dfr w.heap.size)])) (w3.putObj (w.heap.size + 1) (.loop (rc (if jump.isNone then .ready else .done) jump))) ∧
            Grew (foots (L' ++ [rd])) W (foots (L3 ++ [rd])) ∧ Kept (foots (L' ++ [rd])) W (w3.putObj (w.heap.size + 1) (.loop (rc (if jump.isNone then .ready else .done) jump))) ∧
            ∀ i, foots (L3 ++ [rd]) i → i < (w3.putObj (w.heap.size + 1) (.loop (rc (if jump.isNone then .ready else .done) jump))).heap.size := by
          intro jump w3 L3 hst4
          have hf4 := st_front hst4
          have h1 := hf4.2.1.1
          have hl4 : w3.heap[w.heap.size + 1]? = some (.loop (rc .busy none)) := by subst hrb; exact h1.1
          have hd4 : w3.heap[w.heap.size]? = some (.deferred (some [])) := by subst hrb; exact h1.2
          have hst5 : St w0 ((L3 ++ F) ++ [rb]) w3 := by
            rw [List.append_assoc]; subst hot; exact fix_expand hF hfoot hstF hst4
          have hs4 : St w0 (L3 ++ (F ++ [both (obj (w.heap.size + 1) (.loop (rc (if jump.isNone then .ready else .done) jump))) (dfr w.heap.size)])) (w3.putObj (w.heap.size + 1) (.loop (rc (if jump.isNone then .ready else .done) jump))) := by
            rw [← List.append_assoc]
            refine st_put hst5 ((hfoot _).2 hrdl) ⟨World.putObj_heap_same (hlt hl4), (World.putObj_heap_other (by omega)).trans hd4⟩ (fun k hk => (hfoot k).2 ?_)
            subst hrd; exact hk
          refine ⟨?_, hs4, ?_, ?_, ?_⟩
          · have := run_endRound (P := P) jump hl4
            rw [this, hrc]
          · rintro i ⟨c, hc, hi⟩
            by_cases hfi : foots (L' ++ [rd]) i
            · exact .inl hfi
            · refine .inr (Nat.le_of_not_lt fun hlt' => ?_)
              rcases List.mem_append.1 hc with hc | hc
              · refine hf4.2.2.2 c hc i hi (.inr ?_)
                subst hot
                exact ⟨(hst4.2.1 c (by simp [hc])).2 i hi, hlt', hfi⟩
              · simp at hc; subst hc; exact hfi ⟨c, by simp, hi⟩
          · intro i hi hni
            have hne : i ≠ w.heap.size + 1 := fun e => hni ⟨rd, by simp, by subst e; exact hrdl⟩
            rw [World.putObj_heap_other (by omega)]
            rcases Nat.lt_or_ge i w0.heap.size with h2 | h2
            · rw [hst4.1.block i h2, hst.1.block i h2]
            · have h3 := hf4.2.1.2
              subst hot
              exact h3 i h2 hi hni
          · rintro i ⟨c, hc, hi⟩
            have hs4' := hsub hs4
            rcases List.mem_append.1 hc with hc | hc
            · exact hs4'.lt (c := c) (by simp [hc]) hi
            · simp at hc
              refine hs4'.lt (c := both (obj (w.heap.size + 1) (.loop (rc (if jump.isNone then .ready else .done) jump))) (dfr w.heap.size)) (by simp) ?_
              subst hc; subst hrd; exact hi
        rintro e a3 w3 hq
        cases e with
        | normal =>
          obtain ⟨L3, hJ3, hst4⟩ := hq
          obtain ⟨hr, hs, hgr, hk, hlt3⟩ := fin none w3 L3 hst4
          exact ⟨_, _, hr, _, hgr, hk, hlt3, .inl ⟨rfl, L3, hJ3, by subst hrd; exact hs, rfl⟩⟩
        | ret =>
          obtain ⟨L3, hJ3, hst4⟩ := hq
          obtain ⟨hr, hs, hgr, hk, hlt3⟩ := fin (some .ret) w3 L3 hst4
          exact ⟨_, _, hr, _, hgr, hk, hlt3, .inr ⟨rfl, _, L3, hJ3, hs, rfl⟩⟩
        | exit id =>
          obtain ⟨L3, hJ3, hst4⟩ := hq
          obtain ⟨hr, hs, hgr, hk, hlt3⟩ := fin (some (.exit id)) w3 L3 hst4
          exact ⟨_, _, hr, _, hgr, hk, hlt3, .inr ⟨rfl, _, L3, hJ3, hs, rfl⟩⟩
        | _ => exact (show False from hq).elim
      | _ => exact (show False from hp).elim
    · -- the function has returned
      rintro e w3 ⟨⟨v, rfl⟩, hh⟩
      have hdef : ({ frd D l with defers := [mark w.heap.size] ++ (frd D l).defers } : Act) = frd (mark w.heap.size :: D) l := rfl
      rw [hdef]
      rcases hh with ⟨f', L', hJ, hstF, _⟩ | ⟨k, f', _, c, L', hJ, hstF, _⟩
      · have hf := st_front (hsub hstF)
        have hl3 : w3.heap[w.heap.size + 1]? = some (.loop (rc .ready none)) := by
          have h1 := hf.2.1
          subst hrd; exact h1.1
        have hd3 : w3.heap[w.heap.size]? = some (.deferred (some [])) := by
          have h1 := hf.2.1
          subst hrd; exact h1.2
        have hend := run_endLoop (P := P) hl3 (by rw [hrc]; simp)
        refine ⟨_, _, hend, ?_⟩
        have e1 : (rc .ready none).pending = none := by rw [hrc]
        rw [e1]
        refine done _ L' hJ _ ?_
        rw [← List.append_assoc] at hstF ⊢
        exact st_put hstF (by subst hrd; exact .inl rfl) ((World.putObj_heap_other (by omega)).trans hd3) (fun k hk => by subst hrd; exact .inr hk)
      · have hf := st_front (hsub hstF)
        have hl3 : w3.heap[w.heap.size + 1]? = some (.loop (rc .done (some c))) := hf.2.1.1
        have hd3 : w3.heap[w.heap.size]? = some (.deferred (some [])) := hf.2.1.2
        have hend := run_endLoop (P := P) hl3 (by rw [hrc]; simp)
        refine ⟨_, _, hend, ?_⟩
        have e1 : (rc .done (some c)).pending = some c := by rw [hrc]
        rw [e1]
        refine stop _ c L' hJ _ ?_
        rw [← List.append_assoc] at hstF ⊢
        exact st_put hstF (.inl rfl) ((World.putObj_heap_other (by omega)).trans hd3) (fun k hk => .inr hk)
end Go.R

/-
  Iterators over iterators, and loops that call yield: worlds that others change between two steps.
  No conditions: plain lemmas over any program.
-/
namespace Go.R
open Go.RowKit Go.K
/-- How a round of an iterator's own may be left. -/
def RPW (J : Nat → (Nat → Prop) → World → Prop) (JX : Code → (Nat → Prop) → World → Prop) (k : Nat) (f : Nat → Prop) (W : World) : Exit → Act → World → Prop
  | .normal, _, w => ∃ f', J (k + 1) f' w ∧ Grew f W f' ∧ Kept f W w ∧ ∀ i, f' i → i < w.heap.size
  | .ret, _, w => ∃ f', JX .ret f' w ∧ Grew f W f' ∧ Kept f W w ∧ ∀ i, f' i → i < w.heap.size
  | .exit id, _, w => ∃ f', JX (.exit id) f' w ∧ Grew f W f' ∧ Kept f W w ∧ ∀ i, f' i → i < w.heap.size
  | _, _, _ => False
theorem below_put {B b : Nat} {w : World} {o : Obj} (hb : B ≤ b) (hl : b < w.heap.size) : Below B w (w.putObj b o) :=
  (Below.refl B w).grown (row := some b) (grownBy_putObj' w b o) (by omega) (fun k hk => by cases hk; exact hb)
/-- One call of yield, as the iterator sees it. -/
def Step2 {α : Type} (XS : List α) (J Jx : Nat → (Nat → Prop) → World → Prop) (k : Nat) (f : Nat → Prop) (w : World) (b : Bool) (w' : World) : Prop :=
  (b = true ∧ ∃ f', J (k + 1) f' w' ∧ Keep f w f' w' ∧ Grew f w f' ∧ ∀ i, f' i → i < w'.heap.size) ∨ (b = false ∧ ∃ k' f', k' ≤ XS.length ∧ Jx k' f' w' ∧ Keep f w f' w' ∧ Grew f w f' ∧ ∀ i, f' i → i < w'.heap.size)
theorem yield_step2 {α : Type} {P : Program} {lr : Nat} {enc : α → Value} {XS : List α} {J Jx : Nat → (Nat → Prop) → World → Prop} (hR : RoundOK P lr enc XS J Jx) {k : Nat} {x : α} {f : Nat → Prop} {w : World} (hx : XS[k]? = some x) (hJ : J k f w) :
    YieldAt (fen none) 0 P lr #[enc x] w (fun e w' => ∃ b, e = .returned (.bool b) ∧ Step2 XS J Jx k f w b w') := by
  obtain ⟨fn, tmps, assign, body, h1, h2⟩ := hR k x f w hx hJ
  refine ⟨fn, tmps, assign, body, h1, h2.mono ?_⟩
  rintro e w' ⟨f', hg, hk, hl, h⟩
  rcases h with ⟨he, h⟩ | ⟨he, h⟩
  · exact ⟨true, he, .inl ⟨rfl, f', h, Keep.of hg hk, hg, hl⟩⟩
  · exact ⟨false, he, .inr ⟨rfl, k + 1, f', (List.getElem?_eq_some_iff.1 hx).1, h, Keep.of hg hk, hg, hl⟩⟩
/-- The mark of a loop that has ended, among blocks of the iterator's own. -/
structure Mark (B b : Nat) (f : Nat → Prop) (W : World) : Prop where
  h : W.heap[b]? = some (.deferred (some []))
  B : B ≤ b
  n : ¬ f b
/-- Behind the assignments of such a round. -/
def BodyW (P : Program) (J : Nat → (Nat → Prop) → World → Prop) (JX : Code → (Nat → Prop) → World → Prop) (k : Nat) (f : Nat → Prop) (W : World) (lr : Nat) (body : Code) : Act → World → Prop :=
  fun a w => ∃ l2 L, a = frd [] l2 ∧ St W L w ∧ ∀ W2, J k f W2 → (∀ i, f i → i < W2.heap.size) → (∀ i, W.heap.size ≤ i → W2.heap[i]? = w.heap[i]?) → w.heap.size ≤ W2.heap.size → body.wpIn (fen (some lr)) 0 P (RPW J JX k f W2) (frd [] l2) W2
theorem bodyW {P : Program} {J : Nat → (Nat → Prop) → World → Prop} {JX : Code → (Nat → Prop) → World → Prop} {k : Nat} {f : Nat → Prop} {W : World} {lr : Nat} {c : Code} {l2 : List Value} {L : List Chunk}
    (h : ∀ w, St W L w → ∀ W2, J k f W2 → (∀ i, f i → i < W2.heap.size) → (∀ i, W.heap.size ≤ i → W2.heap[i]? = w.heap[i]?) → w.heap.size ≤ W2.heap.size → Hold W2 [] (c.wpIn (fen (some lr)) 0 P (RPW J JX k f W2) (frd [] l2))) :
    Hold W L (BodyW P J JX k f W lr c (frd [] l2)) := fun w hw => ⟨l2, L, rfl, hw, fun W2 h1 h2 h3 h4 => h w hw W2 h1 h2 h3 h4 W2 (St.start W2)⟩
theorem Stays.own1 {B : Nat} {p : Addr} {us : List Value} (hb : p.block < B) : Stays B (fun _ f W => Own1 f W p us) := fun k f w w' h hbl _ => ⟨Nat.lt_of_lt_of_le h.1 hbl.size, h.2.1, fun j u hu => (hbl.cell (p := p.add j) (by rw [addr_block]; exact hb)).trans (h.2.2 j u hu)⟩
theorem Stays.and {B : Nat} {J J' : Nat → (Nat → Prop) → World → Prop} (h : Stays B J) (h' : Stays B J') : Stays B (fun k f W => J k f W ∧ J' k f W) := fun k f w w' hJ hb hs => ⟨h k f w w' hJ.1 hb hs, h' k f w w' hJ.2 hb hs⟩
theorem Stays.mono {B B' : Nat} {J : Nat → (Nat → Prop) → World → Prop} (h : Stays B J) (hB : B ≤ B') (c : Nat → Nat) : Stays B' (fun k => J (c k)) := fun k f w w' hJ hb hs => h (c k) f w w' hJ (hb.mono hB) hs
/-- A block of the round's own, behind its assignments. -/
theorem Own1.round {f : Nat → Prop} {W w W2 : World} {L : List Chunk} {b : Nat} {t : TypeId} {cs : List Value} (hw : St W L w) (hm : K.blk b t cs ∈ L) (hf : ∀ i, f i → i < W.heap.size) (h1 : ∀ i, W.heap.size ≤ i → W2.heap[i]? = w.heap[i]?) (h2 : w.heap.size ≤ W2.heap.size) : Own1 f W2 ⟨b, 0, none⟩ cs := by
  have h := Own1.blk (f := f) hw hm hf
  have hb : W.heap.size ≤ b := (hw.2.1 _ hm).2 b rfl
  exact ⟨Nat.lt_of_lt_of_le h.1 h2, h.2.1, fun j u hu => by
    rw [← h.2.2 j u hu]
    exact World.cell?_of_block (by rw [addr_block]; exact h1 b hb)⟩
theorem Own1.into {f : Nat → Prop} {w0 w : World} {F : List Chunk} {p : Addr} {us : List Value} (h : Own1 f w0 p us) (hw : St w0 F w) : PtrL w [] p us := PtrL.old (Nat.lt_of_lt_of_le h.1 hw.1.size) (h.ptr F w (by simp) hw)
theorem Own1.sub {f f' : Nat → Prop} {w w' : World} {p : Addr} {us : List Value} (h : Own1 f w p us) (h1 : ∀ i, i < w.heap.size → f' i → f i) (hb : Below w.heap.size w w') : Own1 f' w' p us :=
  ⟨Nat.lt_of_lt_of_le h.1 hb.size, fun hf => h.2.1 (h1 _ h.1 hf), fun j u hu => (hb.cell (p := p.add j) (by rw [addr_block]; exact h.1)).trans (h.2.2 j u hu)⟩
/-- The ends of a round: nothing was handed on; or something was. -/
theorem rpw_same {B : Nat} {J : Nat → (Nat → Prop) → World → Prop} {JX : Code → (Nat → Prop) → World → Prop} {k : Nat} {f : Nat → Prop} {W : World} {L : List Chunk} {a : Act} (hJ : Stays B J) (hB : B ≤ W.heap.size) (hf : ∀ i, f i → i < W.heap.size) (h : J (k + 1) f W) : Hold W L (RPW J JX k f W .normal a) := fun w hw =>
  ⟨f, hJ.below h hf hB hw.1, fun i hi => .inl hi, fun i hi _ => hw.1.block i hi, fun i hi => Nat.lt_of_lt_of_le (hf i hi) hw.1.size⟩
theorem rpw_next {J : Nat → (Nat → Prop) → World → Prop} {JX : Code → (Nat → Prop) → World → Prop} {k : Nat} {f f2 : Nat → Prop} {W w1 w2 : World} {L L1 : List Chunk} {a : Act} (hw1 : St W L1 w1) (hk : Keep f w1 f2 w2) (hg : Grew f w1 f2) (hf2 : ∀ i, f2 i → i < w2.heap.size) (h : ∀ w, St w2 L w → J (k + 1) f2 w) : Hold w2 L (RPW J JX k f W .normal a) := fun w hw =>
  ⟨f2, h w hw, fun i hi => (hg i hi).imp id (Nat.le_trans hw1.1.size), fun i hi hn => by
    obtain ⟨h1, h2⟩ := hk i (Nat.lt_of_lt_of_le hi hw1.1.size) hn
    have hi2 := lt_of_same (Nat.lt_of_lt_of_le hi hw1.1.size) h2
    rw [hw.1.block i hi2, h2, hw1.1.block i hi], fun i hi => Nat.lt_of_lt_of_le (hf2 i hi) hw.1.size⟩
theorem rpw_ret {J : Nat → (Nat → Prop) → World → Prop} {JX : Code → (Nat → Prop) → World → Prop} {k : Nat} {f f2 : Nat → Prop} {W w1 w2 : World} {L L1 : List Chunk} {a : Act} (hw1 : St W L1 w1) (hk : Keep f w1 f2 w2) (hg : Grew f w1 f2) (hf2 : ∀ i, f2 i → i < w2.heap.size) (h : ∀ w, St w2 L w → JX .ret f2 w) : Hold w2 L (RPW J JX k f W .ret a) := fun w hw =>
  ⟨f2, h w hw, fun i hi => (hg i hi).imp id (Nat.le_trans hw1.1.size), fun i hi hn => by
    obtain ⟨h1, h2⟩ := hk i (Nat.lt_of_lt_of_le hi hw1.1.size) hn
    have hi2 := lt_of_same (Nat.lt_of_lt_of_le hi hw1.1.size) h2
    rw [hw.1.block i hi2, h2, hw1.1.block i hi], fun i hi => Nat.lt_of_lt_of_le (hf2 i hi) hw.1.size⟩
theorem rangeW {α : Type} {P : Program} {w1 : World} {Q : Exit → Act → World → Prop} {l : List Value} {g : Operand} {p : Tmp} {assign body : Code} {gf : FuncId} {first cap : List Value} {pre : (Nat → Prop) → World → Prop} {enc : α → Value} {XS : List α} {n : Nat}
    (hg : ev l g = .func (.func gf) first.toArray cap.toArray) (hcal : callable P gf = true) (hit : IterC P gf first cap pre enc XS)
    (B : Nat) (hB : B ≤ w1.heap.size) (J : Nat → (Nat → Prop) → World → Prop) (JX : Code → (Nat → Prop) → World → Prop) (hJ : Stays B J) (hJX : ∀ c, Stays B (fun _ => JX c)) (f : Nat → Prop) (hf : ∀ i, f i → i < w1.heap.size) (h0 : J 0 f w1)
    (hpre : ∀ f' w', (∀ i, i < w1.heap.size → f' i → f i) → Below w1.heap.size w1 w' → pre f' w')
    (round : ∀ k x f W lr, XS[k]? = some x → J k f W → (∀ i, f i → i < W.heap.size) → B ≤ W.heap.size →
      Hold W [] (assign.wpIn (fen (some lr)) 0 P (Exit.then (BodyW P J JX k f W lr body) (fun _ _ _ => False)) (frd [] (setn l p (enc x)))))
    (done : ∀ b f W, J XS.length f W → Mark B b f W → Q .normal (frd [mark b] l) W)
    (stop : ∀ b c f W, JX c f W → Mark B b f W → c.wpIn (fen none) n P Q (frd [mark b] l) W) :
    (Code.rangeFunc g #[p] assign body).wpIn (fen none) n P Q (frd [] l) w1 := by
  refine wpIn_rangeFunc ?_
  intro fn hfn
  obtain ⟨rc, hrc⟩ : ∃ rc : LoopState → Option Code → Loop, rc = fun st pe => { state := st, pending := pe, fn, tmps := l.toArray, params := #[p], assign, body, defers := w1.heap.size } := ⟨_, rfl⟩
  obtain ⟨W1, hW1⟩ : ∃ W1, (w1.alloc (.deferred (some []))).alloc (.loop (rc .ready none)) = W1 := ⟨_, rfl⟩
  have hb1 : Below w1.heap.size w1 W1 := by
    rw [← hW1]; exact ((Below.refl _ w1).alloc (Nat.le_refl _) _).alloc (by simp) _
  have hs1 : W1.heap.size = w1.heap.size + 2 := by rw [← hW1]; simp
  have hl1 : W1.heap[w1.heap.size + 1]? = some (.loop (rc .ready none)) := by
    rw [← hW1]; have := World.alloc_heap_new (w1.alloc (.deferred (some []))) (.loop (rc .ready none)); rwa [World.size_alloc] at this
  have hd1 : W1.heap[w1.heap.size]? = some (.deferred (some [])) := by
    rw [← hW1]; exact (Below.heap_alloc _ _ _ (by simp)).trans (World.alloc_heap_new w1 _)
  have hn0 : ¬ f (w1.heap.size + 1) := fun h => by have := hf _ h; omega
  have hn1 : ¬ f w1.heap.size := fun h => by have := hf _ h; omega
  refine ⟨w1.heap.size + 1, [mark w1.heap.size], W1, { target := .fn (.func gf) cap.toArray, args := first.toArray ++ #[Value.func (.yield (w1.heap.size + 1)) #[] #[]] }, W1, gf,
    (first ++ [Value.func (.yield (w1.heap.size + 1)) #[] #[]] ++ cap).toArray, W1, ?_, ?_, fun _ _ => trivial, ?_, fun h => (by cases h), ?_⟩
  · rw [← hW1, hrc]; exact run_enterLoop_outer _ _ _ _ _
  · have he : (frd [] l).eval g = .func (.func gf) first.toArray cap.toArray := by rw [frd_eval]; exact hg
    simp only [resolve, he]
    simp [go_sem]
  · simp [invoke, go_sem, run_call hcal]
  · refine calls_fen ((hit (w1.heap.size + 1) W1.heap.size
      (fun k G W => ∃ f, J k f W ∧ (∀ i, f i → i < W.heap.size) ∧ G = (fun i => f i ∨ i = w1.heap.size + 1 ∨ i = w1.heap.size) ∧ W.heap[w1.heap.size + 1]? = some (.loop (rc .ready none)) ∧ W.heap[w1.heap.size]? = some (.deferred (some [])) ∧ ¬ f (w1.heap.size + 1) ∧ ¬ f w1.heap.size)
      (fun k G W => ∃ c f, JX c f W ∧ (∀ i, f i → i < W.heap.size) ∧ G = (fun i => f i ∨ i = w1.heap.size + 1 ∨ i = w1.heap.size) ∧ W.heap[w1.heap.size + 1]? = some (.loop (rc .done (some c))) ∧ W.heap[w1.heap.size]? = some (.deferred (some [])) ∧ ¬ f (w1.heap.size + 1) ∧ ¬ f w1.heap.size)
      (fun i => f i ∨ i = w1.heap.size + 1 ∨ i = w1.heap.size) W1 (Nat.le_refl _) ?_ ?_ ?_ ?_ ⟨f, hJ.below h0 hf hB hb1, fun i hi => Nat.lt_of_lt_of_le (hf i hi) hb1.size, rfl, hl1, hd1, hn0, hn1⟩
      (hpre _ _ (fun i hi h => by
        rcases h with h | h | h
        · exact h
        · omega
        · omega) hb1)).mono ?_)
    · rintro k G W W' ⟨f, h1, h2, rfl, h3, h4, h5, h6⟩ hb hs
      exact ⟨f, hJ k f W W' h1 (hb.mono (by omega)) (fun i hi => hs i (.inl hi)), fun i hi => Nat.lt_of_lt_of_le (h2 i hi) hb.size, rfl, (hs _ (.inr (.inl rfl))).trans h3, (hs _ (.inr (.inr rfl))).trans h4, h5, h6⟩
    · rintro k G W W' ⟨c, f, h1, h2, rfl, h3, h4, h5, h6⟩ hb hs
      exact ⟨c, f, hJX c k f W W' h1 (hb.mono (by omega)) (fun i hi => hs i (.inl hi)), fun i hi => Nat.lt_of_lt_of_le (h2 i hi) hb.size, rfl, (hs _ (.inr (.inl rfl))).trans h3, (hs _ (.inr (.inr rfl))).trans h4, h5, h6⟩
    · rintro i (h | h | h)
      · exact Nat.lt_of_lt_of_le (hf i h) hb1.size
      · omega
      · omega
    · -- one round
      rintro k x G W hx ⟨f, hJk, hfb, rfl, hl, hd, hn0, hn1⟩
      have hy := run_yield (P := P) (args := #[enc x]) hl (by rw [hrc]; rfl)
      have hy' : (Instr.yield (w1.heap.size + 1) #[enc x]).run P W = .ok (.round (w1.heap.size + 1) fn (setn l p (enc x)).toArray assign body) W := by
        rw [hy, hrc]
        congr 2
        simp [setn_eq]
      refine ⟨fn, _, assign, body, hy', roundIn_of_wpIn trivial ?_⟩
      have hBW : B ≤ W.heap.size := Nat.le_trans (by omega) (Nat.le_of_lt (lt_of_some hl))
      refine wide_seq (r := some (w1.heap.size + 1)) (round k x f W (w1.heap.size + 1) hx hJk hfb hBW W (St.start W)) ?_
      rintro e a1 w2 hp
      cases e with
      | normal =>
        obtain ⟨l2, L2, rfl, hstw, hbody⟩ := hp
        have hlW := lt_of_some hl
        have hdW := lt_of_some hd
        have hl' : w2.heap[w1.heap.size + 1]? = some (.loop (rc .ready none)) := (hstw.1.block _ hlW).trans hl
        have hd' : w2.heap[w1.heap.size]? = some (.deferred (some [])) := (hstw.1.block _ hdW).trans hd
        have hsz := hstw.1.size
        refine ⟨_, run_beginRound hl' (by rw [hrc]), ?_⟩
        have e0 : ({ rc .ready none with state := .busy } : Loop) = rc .busy none := by rw [hrc]
        rw [e0]
        have hlt := lt_of_some hl'
        have hltd := lt_of_some hd'
        obtain ⟨W2, hW2⟩ : ∃ W2, w2.putObj (w1.heap.size + 1) (.loop (rc .busy none)) = W2 := ⟨_, rfl⟩
        have hs2 : W2.heap.size = w2.heap.size := by rw [← hW2]; simp [World.putObj]
        have hl2 : W2.heap[w1.heap.size + 1]? = some (.loop (rc .busy none)) := by rw [← hW2]; exact World.putObj_heap_same hlt
        have ho2 : ∀ i, i ≠ w1.heap.size + 1 → W2.heap[i]? = w2.heap[i]? := fun i hi => by rw [← hW2]; exact World.putObj_heap_other (by omega)
        have hd2 : W2.heap[w1.heap.size]? = some (.deferred (some [])) := (ho2 _ (by omega)).trans hd'
        have hJ2 : J k f W2 := hJ k f w2 W2 (hJ.below hJk hfb hBW hstw.1) (by rw [← hW2]; exact below_put (by omega) hlt) (fun i hi => ho2 i (fun e => hn0 (e ▸ hi)))
        rw [hW2]
        refine wide_seq (r := some (w1.heap.size + 1)) (hbody W2 hJ2 (fun i hi => by rw [hs2]; exact Nat.lt_of_lt_of_le (hfb i hi) hsz) (fun i hi => ho2 i (by omega)) (by omega)) ?_
        have fin : ∀ (jump : Option Code) (w3 : World) (f' : Nat → Prop), Grew f W2 f' → Kept f W2 w3 → (∀ i, f' i → i < w3.heap.size) →
            (Instr.endRound (w1.heap.size + 1) jump).run P w3 = .ok (.bool jump.isNone) (w3.putObj (w1.heap.size + 1) (.loop (rc (if jump.isNone then .ready else .done) jump))) ∧
            (∀ i, f' i → (w3.putObj (w1.heap.size + 1) (.loop (rc (if jump.isNone then .ready else .done) jump))).heap[i]? = w3.heap[i]?) ∧
            Below B w3 (w3.putObj (w1.heap.size + 1) (.loop (rc (if jump.isNone then .ready else .done) jump))) ∧
            (w3.putObj (w1.heap.size + 1) (.loop (rc (if jump.isNone then .ready else .done) jump))).heap[w1.heap.size + 1]? = some (.loop (rc (if jump.isNone then .ready else .done) jump)) ∧
            (w3.putObj (w1.heap.size + 1) (.loop (rc (if jump.isNone then .ready else .done) jump))).heap[w1.heap.size]? = some (.deferred (some [])) ∧
            ¬ f' (w1.heap.size + 1) ∧ ¬ f' w1.heap.size ∧
            Grew (fun i => f i ∨ i = w1.heap.size + 1 ∨ i = w1.heap.size) W (fun i => f' i ∨ i = w1.heap.size + 1 ∨ i = w1.heap.size) ∧
            Kept (fun i => f i ∨ i = w1.heap.size + 1 ∨ i = w1.heap.size) W (w3.putObj (w1.heap.size + 1) (.loop (rc (if jump.isNone then .ready else .done) jump))) := by
          intro jump w3 f' hgr hk hb3
          have hl4 : w3.heap[w1.heap.size + 1]? = some (.loop (rc .busy none)) := (hk _ (by omega) hn0).trans hl2
          have hd4 : w3.heap[w1.heap.size]? = some (.deferred (some [])) := (hk _ (by omega) hn1).trans hd2
          have hnf0 : ¬ f' (w1.heap.size + 1) := fun h => by
            rcases hgr _ h with h | h
            · exact hn0 h
            · omega
          have hnf1 : ¬ f' w1.heap.size := fun h => by
            rcases hgr _ h with h | h
            · exact hn1 h
            · omega
          refine ⟨?_, fun i hi => World.putObj_heap_other (fun e => hnf0 (by first | exact e ▸ hi | exact e.symm ▸ hi)), below_put (by omega) (lt_of_some hl4), World.putObj_heap_same (lt_of_some hl4), (World.putObj_heap_other (by omega)).trans hd4, hnf0, hnf1, ?_, ?_⟩
          · have := run_endRound (P := P) jump hl4
            rw [this, hrc]
          · rintro i (h | h)
            · rcases hgr i h with h | h
              · exact .inl (.inl h)
              · exact .inr (by omega)
            · exact .inl (.inr h)
          · intro i hi hni
            have h1 : i ≠ w1.heap.size + 1 := fun e => hni (.inr (.inl e))
            rw [World.putObj_heap_other (by omega), hk i (by omega) (fun h => hni (.inl h)), ho2 i h1, hstw.1.block i hi]
        rintro e a3 w3 hq
        cases e with
        | normal =>
          obtain ⟨f', hJ3, hgr, hk, hb3⟩ := hq
          obtain ⟨hr, hsm, hbl, h5, h6, h7, h8, h9, h10⟩ := fin none w3 f' hgr hk hb3
          refine ⟨_, _, hr, _, h9, h10, ?_, .inl ⟨rfl, f', hJ _ _ _ _ hJ3 hbl hsm, fun i hi => Nat.lt_of_lt_of_le (hb3 i hi) hbl.size, rfl, h5, h6, h7, h8⟩⟩
          rintro i (h | h | h)
          · exact Nat.lt_of_lt_of_le (hb3 i h) hbl.size
          · subst h; exact lt_of_some h5
          · subst h; exact lt_of_some h6
        | ret =>
          obtain ⟨f', hJ3, hgr, hk, hb3⟩ := hq
          obtain ⟨hr, hsm, hbl, h5, h6, h7, h8, h9, h10⟩ := fin (some .ret) w3 f' hgr hk hb3
          refine ⟨_, _, hr, _, h9, h10, ?_, .inr ⟨rfl, .ret, f', hJX .ret 0 _ _ _ hJ3 hbl hsm, fun i hi => Nat.lt_of_lt_of_le (hb3 i hi) hbl.size, rfl, h5, h6, h7, h8⟩⟩
          rintro i (h | h | h)
          · exact Nat.lt_of_lt_of_le (hb3 i h) hbl.size
          · subst h; exact lt_of_some h5
          · subst h; exact lt_of_some h6
        | exit id =>
          obtain ⟨f', hJ3, hgr, hk, hb3⟩ := hq
          obtain ⟨hr, hsm, hbl, h5, h6, h7, h8, h9, h10⟩ := fin (some (.exit id)) w3 f' hgr hk hb3
          refine ⟨_, _, hr, _, h9, h10, ?_, .inr ⟨rfl, .exit id, f', hJX (.exit id) 0 _ _ _ hJ3 hbl hsm, fun i hi => Nat.lt_of_lt_of_le (hb3 i hi) hbl.size, rfl, h5, h6, h7, h8⟩⟩
          rintro i (h | h | h)
          · exact Nat.lt_of_lt_of_le (hb3 i h) hbl.size
          · subst h; exact lt_of_some h5
          · subst h; exact lt_of_some h6
        | _ => exact (show False from hq).elim
      | _ => exact (show False from hp).elim
    · -- the function has returned
      rintro e w3 ⟨⟨v, rfl⟩, hh⟩
      have hdef : ({ frd [] l with defers := [mark w1.heap.size] ++ (frd [] l).defers } : Act) = frd [mark w1.heap.size] l := rfl
      rw [hdef]
      rcases hh with ⟨G, f', hJ3, hb3, rfl, hl3, hd3, h5, h6⟩ | ⟨k, G, _, c, f', hJ3, hb3, rfl, hl3, hd3, h5, h6⟩
      · have hend := run_endLoop (P := P) hl3 (by rw [hrc]; simp)
        refine ⟨_, _, hend, ?_⟩
        have e1 : (rc .ready none).pending = none := by rw [hrc]
        rw [e1]
        exact done _ f' _ (hJ _ _ _ _ hJ3 (below_put (by omega) (lt_of_some hl3)) (fun i hi => World.putObj_heap_other (fun e => h5 (by first | exact e ▸ hi | exact e.symm ▸ hi)))) ⟨(World.putObj_heap_other (by omega)).trans hd3, hB, h6⟩
      · have hend := run_endLoop (P := P) hl3 (by rw [hrc]; simp)
        refine ⟨_, _, hend, ?_⟩
        have e1 : (rc .done (some c)).pending = some c := by rw [hrc]
        rw [e1]
        exact stop _ c f' _ (hJX c 0 _ _ _ hJ3 (below_put (by omega) (lt_of_some hl3)) (fun i hi => World.putObj_heap_other (fun e => h5 (by first | exact e ▸ hi | exact e.symm ▸ hi)))) ⟨(World.putObj_heap_other (by omega)).trans hd3, hB, h6⟩
/-- Leaving a function whose loop over a function has ended. -/
theorem leaveW {P : Program} {fn : Func} {l : List Value} {R : Ending → World → Prop} {v : Value} {B b : Nat} {f : Nat → Prop} {W : World} (hm : Mark B b f W) (hr : ∀ w, (results fn l.toArray).run P w = .ok v w)
    (k : ∀ W', Below B W W' → (∀ i, f i → W'.heap[i]? = W.heap[i]?) → R (.returned v) W') : LeavesInM (fen none) 0 P fn l.toArray R [mark b] .returning W :=
  ⟨by simp, .inl ⟨b, _, rfl, run_takeDeferred hm.h, v, hr _, k _ (below_put hm.B (lt_of_some hm.h)) (fun i hi => World.putObj_heap_other (fun e => hm.n (by first | exact e ▸ hi | exact e.symm ▸ hi)))⟩⟩
/-- The end of a round. -/
def RoundEndY (Inv : List Value → World → Prop) (μ : List Value → Nat) (wi wr : List Nat) (l vi : List Value) : Act → World → Prop :=
  fun a w' => ∃ vi' vr', a = frd [] (setF vr' (setM l wi vi') wr) ∧ Inv vi' w' ∧ μ vi' < μ vi
/-- Loops that call yield. -/
theorem loopY {P : Program} {w0 : World} {L : List Chunk} {Q : Exit → Act → World → Prop} {l : List Value} {x : Code} {n : Nat} (wi wr : List Nat) (Inv : List Value → World → Prop) (μ : List Value → Nat) (h0 : ∀ w, St w0 L w → Inv (wi.map (nth l)) w)
    (round : ∀ vi vr W, Inv vi W → Hold W [] (x.wpIn (fen none) n P (Exit.then (RoundEndY Inv μ wi wr l vi) Q) (frd [] (setF vr (setM l wi vi) wr)))) :
    Hold w0 L ((Code.loop x).wpIn (fen none) n P Q (frd [] l)) := by
  intro w hw
  refine wpIn_loop_ghost (fun n a w => ∃ vi vr, a = frd [] (setF vr (setM l wi vi) wr) ∧ Inv vi w ∧ μ vi = n) _ ⟨_, nth l, by rw [setM_self, setF_self], h0 w hw, rfl⟩ ?_
  rintro n a w ⟨vi, vr, rfl, hJ, rfl⟩
  refine wpIn_mono (round vi vr w hJ w (St.start w)) (fun e a' w' hq => ?_)
  cases e with
  | normal =>
    obtain ⟨vi', vr', rfl, hJ', hlt⟩ := hq
    exact ⟨_, hlt, vi', vr', rfl, hJ', rfl⟩
  | _ => exact hq
theorem roundY {w0 : World} {L : List Chunk} {Q : Exit → Act → World → Prop} {Inv : List Value → World → Prop} {μ : List Value → Nat} {wi wr : List Nat} {vi l0 l : List Value} (vi' : List Value) (hJ : ∀ w, St w0 L w → Inv vi' w) (hμ : μ vi' < μ vi) (he : l = setF (nth l) (setM l0 wi vi') wr) :
    Hold w0 L (Exit.then (RoundEndY Inv μ wi wr l0 vi) Q .normal (frd [] l)) := fun w hw => ⟨vi', nth l, by rw [← he], hJ w hw, hμ⟩
end Go.R

/-
  Regions that draw their order, one operation of which calls yield: what comes ahead of it may be taken in any order; behind it one operation after the other.
  No conditions: plain lemmas over any program.
-/
namespace Go.R
open Go.RowKit Go.K
section
variable {P : Program} {ops : Array Oper} {Q : Exit → Act → World → Prop} {S : World → Prop} {B : Nat → Bool} {z : Nat} {Zp : Nat → Array Bool → Act → World → Prop}
/-- As wpAnyU, up to number z. -/
def wpAnyZ (P : Program) (ops : Array Oper) (Q : Exit → Act → World → Prop) (S : World → Prop) (z : Nat) (Zp : Nat → Array Bool → Act → World → Prop) : Nat → Array Bool → Act → World → Prop
  | 0, listed, a, w => Region.ready .any ops listed = [] ∧ Q .normal a w
  | fuel + 1, listed, a, w =>
    (Region.ready .any ops listed = [] → Q .normal a w) ∧
    ∀ i ∈ Region.ready .any ops listed, (i = z → Zp fuel listed a w) ∧ (i ≠ z → wpOp P ops Q i (fun a' w' => (S w → S w') ∧ wpAnyZ P ops Q S z Zp fuel (listed.setIfInBounds i true) a' w') a w)
/-- All of D wait for one another, at last for i; z is of them. -/
def chkD (ops : Array Oper) (z : Nat) (listed : Array Bool) (i : Nat) (D : List Nat) : Bool :=
  D.contains z && !(z == i) && D.all (fun k => !(listed.getD k true)) && D.all (fun k => k == i || D.any fun d => waits ops k d)
structure DSet (ops : Array Oper) (z i : Nat) (D : List Nat) (listed : Array Bool) : Prop where
  m : z ∈ D
  n : z ≠ i
  u : ∀ k ∈ D, listed.getD k true = false
  w : ∀ k ∈ D, k ≠ i → ∃ d ∈ D, waits ops k d = true
theorem chkD_spec {listed : Array Bool} {i : Nat} {D : List Nat} (h : chkD ops z listed i D = true) : DSet ops z i D listed := by
  simp only [chkD, Bool.and_eq_true, List.all_eq_true, Bool.or_eq_true, List.any_eq_true, Bool.not_eq_true', beq_iff_eq, List.contains_iff_mem, beq_eq_false_iff_ne] at h
  obtain ⟨⟨⟨h1, h2⟩, h3⟩, h4⟩ := h
  exact ⟨h1, h2, h3, fun k hk hki => by
    rcases h4 k hk with h | ⟨d, hd, hw⟩
    · exact absurd h hki
    · exact ⟨d, hd, hw⟩⟩
theorem DSet.out {listed : Array Bool} {i j : Nat} {D : List Nat} (h : DSet ops z i D listed) (hj : j ∈ Region.ready .any ops listed) (hji : j ≠ i) : j ∉ D := fun hm => by
  obtain ⟨d, hd, hw⟩ := h.w j hm hji
  exact unlisted_ready (h.u d hd) hw hj
theorem DSet.next {listed : Array Bool} {i j : Nat} {D : List Nat} (h : DSet ops z i D listed) (hj : j ∉ D) : DSet ops z i D (listed.setIfInBounds j true) :=
  ⟨h.m, h.n, fun k hk => by
    have hne : j ≠ k := fun e => by subst e; exact hj hk
    rw [getD_set_ne true hne]; exact h.u k hk, h.w⟩
theorem wpAnyZ_mem {i : Nat} {oi : Oper} {v : Value} {D : List Nat} (hi : ops[i]? = some oi) (hsel : ∀ (j : Nat) (o : Oper) cs b, ops[j]? = some o → o.op ≠ .select cs b)
    (hQ : ∀ c a w, Q (.panic c) (a.put oi.dst v) w → Q (.panic c) a w) :
    ∀ (fuel : Nat) (listed : Array Bool) (a : Act) (w : World),
      (∀ j oj, ops[j]? = some oj → j ≠ i → listed.getD j true = false → (∀ e ∈ oj.after, Region.binds .any e = true → e.on ≠ i) → oi.apart ops oj = true) →
      DSet ops z i D listed →
      i ∈ Region.ready .any ops listed → YieldsIf P ops S oi v a → S w →
      wpAnyZ P ops Q S z Zp fuel (listed.setIfInBounds i true) (a.put oi.dst v) w → wpAnyZ P ops Q S z Zp (fuel + 1) listed a w := by
  intro fuel
  induction fuel with
  | zero =>
    intro listed a w _ hD hr hy hS H
    refine ⟨fun h => (by rw [h] at hr; cases hr), fun j hj => ?_⟩
    by_cases hji : j = i
    · subst hji; exact ⟨fun h => absurd h.symm hD.n, fun _ => hy.wpOp hi hS ⟨fun h => h, H⟩⟩
    · have := ready_mono hj hji
      rw [H.1] at this
      cases this
  | succ fuel ih =>
    intro listed a w hfree hD hr hy hS H
    refine ⟨fun h => (by rw [h] at hr; cases hr), fun j hj => ?_⟩
    by_cases hji : j = i
    · subst hji; exact ⟨fun h => absurd h.symm hD.n, fun _ => hy.wpOp hi hS ⟨fun h => h, H⟩⟩
    · have hjD := hD.out hj hji
      refine ⟨fun h => absurd (h ▸ hD.m) hjD, fun hjz => ?_⟩
      have h1 := (H.2 j (ready_mono hj hji)).2 hjz
      obtain ⟨hjun, oj, hoj, hall⟩ := mem_ready.1 hj
      have hiun := (mem_ready.1 hr).1
      have hnot : ∀ e ∈ oj.after, Region.binds .any e = true → e.on ≠ i := fun e he hb heq => by
        have h1 := hall e he hb
        rw [heq] at h1
        rcases Nat.lt_or_ge i listed.size with h' | h'
        · simp [h'] at hiun h1; rw [hiun] at h1; cases h1
        · simp [Array.getElem?_eq_none h'] at h1
      have h2 := wpOp_putIf hoj (hfree j oj hoj hji hjun hnot) (fun cs b => hsel i oi cs b hi) (fun cs b => hsel j oj cs b hoj) hQ hy h1
      have back : ∀ k, (listed.setIfInBounds j true).getD k true = false → listed.getD k true = false := fun k hun => by
        by_cases hjk : j = k
        · subst hjk; exact hjun
        · rw [getD_set_ne true hjk] at hun; exact hun
      have hfree' : ∀ k ok, ops[k]? = some ok → k ≠ i → (listed.setIfInBounds j true).getD k true = false →
          (∀ e ∈ ok.after, Region.binds .any e = true → e.on ≠ i) → oi.apart ops ok = true := fun k ok hk hki hun hno => hfree k ok hk hki (back k hun) hno
      refine wpOp_mono (fun a' w' h3 => ⟨h3.2.1, ih (listed.setIfInBounds j true) a' w' hfree' (hD.next hjD) (ready_mono hr (Ne.symm hji)) h3.1 (h3.2.1 hS) ?_⟩) h2
      rw [Array.setIfInBounds_comm _ _ hji]
      exact h3.2.2
end
section
variable {r : Option Nat} {n : Nat} {P : Program} {w0 : World} {A L : List Chunk} {D : List Deferred} {ops : Array Oper} {Q : Exit → Act → World → Prop} {l : List Value} {o : Oper} {v : Value} {id fuel z : Nat} {listed : Array Bool}
/-- What is owed at the call of yield. -/
def ZP (r : Option Nat) (n : Nat) (P : Program) (ops : Array Oper) (Q : Exit → Act → World → Prop) (D : List Deferred) (z : Nat) (fuel : Nat) (listed : Array Bool) (a : Act) (w : World) : Prop :=
  wpOpIn (fen r) n P ops Q z (wpAnyIn (fen r) n P .any ops Q fuel (listed.setIfInBounds z true)) (app D a) w
theorem anyz_in (hd : ops.toList.all noDef = true) : ∀ (fuel : Nat) (listed : Array Bool) (a : Act) (w : World), wpAnyZ P ops (onlyN D Q) (Keeps w0 A) z (ZP r n P ops Q D z) fuel listed a w → wpAnyIn (fen r) n P .any ops Q fuel listed (app D a) w
  | 0, listed, a, w, h => ⟨h.1, by obtain ⟨l, rfl, hq⟩ := h.2; exact hq⟩
  | fuel + 1, listed, a, w, h => by
    refine ⟨fun h0 => by obtain ⟨l, rfl, hq⟩ := h.1 h0; exact hq, fun i hi => ?_⟩
    by_cases hiz : i = z
    · subst hiz; exact (h.2 i hi).1 rfl
    have h1 := (h.2 i hi).2 hiz
    unfold wpOp at h1
    unfold wpOpIn
    cases ho : ops[i]? with
    | none => rw [ho] at h1; exact anyz_in hd fuel _ _ _ h1.2
    | some o =>
      rw [ho] at h1
      have hdo : noDef o = true := List.all_eq_true.1 hd o (by
        have := Array.mem_of_getElem? ho
        simpa using this)
      have hy : yielded ops (app D a).tmps = yielded ops a.tmps := rfl
      simp only [hy] at h1 ⊢
      split
      · rename_i hw
        simp only [hw, if_true] at h1
        rcases h1 with h1 | ⟨_, h1⟩
        · exact op_in hdo (fun a w h => anyz_in hd fuel _ a w h.2) h1
        · exact (onlyN_lets h1).elim
      · rename_i hw
        rw [if_neg hw] at h1
        refine ⟨fun _ _ => trivial, ?_⟩
        rw [app_put]
        exact anyz_in hd fuel _ _ w h1.2
def ZHold (r : Option Nat) (n : Nat) (P : Program) (w0 : World) (ops : Array Oper) (Q : Exit → Act → World → Prop) (D : List Deferred) (z : Nat) (A : List Chunk) (fuel : Nat) (listed : Array Bool) (l : List Value) (L : List Chunk) : Prop :=
  ∀ w, St w0 L w → wpAnyZ P ops (onlyN D Q) (Keeps w0 A) z (ZP r n P ops Q D z) fuel listed (fr l) w
theorem zdraw {lo : List Oper} (z : Nat) (hm : P.follows .mixedOrders = true) (hd : lo.all noDef = true) (k : ZHold r n P w0 lo.toArray Q D z L lo.length (Array.replicate lo.length false) l L) :
    Hold w0 L ((Code.region id lo.toArray true).wpIn (fen r) n P Q (frd D l)) := fun w hw => by
  have h2 := anyz_in (r := r) (n := n) (by simpa using hd) _ _ _ _ (k _ hw.drew)
  refine wpIn_region_any hm ?_
  rw [List.size_toArray]
  exact h2
theorem z_take (i : Nat) (Ds : List Nat) (ho : nthP ops.toList i = some o) (hy : YieldsIf P ops (Keeps w0 A) o v (fr l)) (hA : ∀ c ∈ A, c ∈ L) (ht : takeB ops listed i = true) (hc : chkD ops z listed i Ds = true)
    (k : ZHold r n P w0 ops Q D z A fuel (listed.setIfInBounds i true) (setd l o.dst v) L) : ZHold r n P w0 ops Q D z A (fuel + 1) listed l L := fun w hw => by
  simp only [takeB, Bool.and_eq_true] at ht
  refine wpAnyZ_mem (opAt ho) (Region.noSelect_spec ht.1) (fun _ _ _ h => (show False from h).elim) fuel listed _ w (Region.free_spec (opAt ho) ht.2.1) (chkD_spec hc) (by simpa using ht.2.2) hy ⟨L, hA, hw⟩ ?_
  rw [fr_put]
  exact k w hw
theorem z_pure (i : Nat) (Ds : List Nat) (ho : nthP ops.toList i = some o) (h : Pure P o l v) (hA : ∀ c ∈ A, c ∈ L) (ht : takeB ops listed i = true) (hc : chkD ops z listed i Ds = true) (hg : wantL ops.toList l o.guard = true)
    (k : ZHold r n P w0 ops Q D z A fuel (listed.setIfInBounds i true) (setd l o.dst v) L) : ZHold r n P w0 ops Q D z A (fuel + 1) listed l L :=
  z_take i Ds ho (.inl ⟨by rw [wanted_eq]; exact hg, fun w' _ => by rw [fr_eval]; exact h w'⟩) hA ht hc k
theorem z_mem (i : Nat) (Ds : List Nat) (ho : nthP ops.toList i = some o) (h : Sil P w0 A o l v) (hA : ∀ c ∈ A, c ∈ L) (ht : takeB ops listed i = true) (hc : chkD ops z listed i Ds = true) (hg : wantL ops.toList l o.guard = true)
    (k : ZHold r n P w0 ops Q D z A fuel (listed.setIfInBounds i true) (setd l o.dst v) L) : ZHold r n P w0 ops Q D z A (fuel + 1) listed l L :=
  z_take i Ds ho (.inl ⟨by rw [wanted_eq]; exact hg, fun w' ⟨F, hF, hw'⟩ => by rw [fr_eval]; exact h F w' hF hw'⟩) hA ht hc k
theorem z_skip (i : Nat) (Ds : List Nat) (ho : nthP ops.toList i = some o) (hA : ∀ c ∈ A, c ∈ L) (ht : takeB ops listed i = true) (hc : chkD ops z listed i Ds = true) (hg : wantL ops.toList l o.guard = false)
    (k : ZHold r n P w0 ops Q D z A fuel (listed.setIfInBounds i true) (setd l o.dst undef) L) : ZHold r n P w0 ops Q D z A (fuel + 1) listed l L :=
  z_take i Ds ho (.inr ⟨by rw [wanted_eq]; exact hg, rfl⟩) hA ht hc k
theorem z_loud {ρ : Type} {ok : ρ → Prop} {val : ρ → Value} {Dd : ρ → List Chunk} (i : Nat) (hiz : Nat.beq i z = false) (ho : nthP ops.toList i = some o) (h : Loud P w0 L o l ok val Dd) (hA : ∀ c ∈ A, c ∈ L) (hr : Region.ready .any ops listed = [i]) (hg : wantL ops.toList l o.guard = true)
    (k : ∀ r', ok r' → ZHold r n P w0 ops Q D z A fuel (listed.setIfInBounds i true) (setd l o.dst (val r')) (Dd r' ++ L)) : ZHold r n P w0 ops Q D z A (fuel + 1) listed l L := fun w hw => by
  refine ⟨fun h0 => (by rw [hr] at h0; cases h0), fun j hj => ?_⟩
  rw [hr] at hj
  simp at hj
  subst hj
  refine ⟨fun e => (by subst e; simp at hiz), fun _ => ?_⟩
  have ho' := opAt ho
  have hg' : Region.wanted o (yielded ops (fr l).tmps) = true := by rw [wanted_eq]; exact hg
  unfold wpOp
  simp only [ho', hg', if_true]
  refine .inl (h L w (fun _ h => h) hw _ _ ?_)
  rintro v w' ⟨r', hr', rfl, hst⟩
  exact ⟨fun _ => ⟨_, fun c hc => List.mem_append_right _ (hA c hc), hst⟩, k r' hr' w' hst⟩
theorem z_call (i : Nat) (hiz : Nat.beq i z = false) (ho : nthP ops.toList i = some o) (h : Loud P w0 L o l (fun _ : Unit => True) (fun _ => v) (fun _ => [])) (hA : ∀ c ∈ A, c ∈ L) (hr : Region.ready .any ops listed = [i]) (hg : wantL ops.toList l o.guard = true)
    (k : ZHold r n P w0 ops Q D z A fuel (listed.setIfInBounds i true) (setd l o.dst v) L) : ZHold r n P w0 ops Q D z A (fuel + 1) listed l L :=
  z_loud i hiz ho h hA hr hg fun _ _ => k
theorem zsplit {b : Bool} (t : Nat) (hb : nth l t = .bool b) (kt : b = true → ZHold r n P w0 ops Q D z A fuel listed (setn l t (.bool true)) L) (kf : b = false → ZHold r n P w0 ops Q D z A fuel listed (setn l t (.bool false)) L) : ZHold r n P w0 ops Q D z A fuel listed l L := by
  cases b with
  | true => have h := kt rfl; rw [← hb, setn_self] at h; exact h
  | false => have h := kf rfl; rw [← hb, setn_self] at h; exact h
/-- Behind it. -/
def YHold (r : Option Nat) (n : Nat) (P : Program) (w0 : World) (ops : Array Oper) (Q : Exit → Act → World → Prop) (D : List Deferred) (fuel : Nat) (listed : Array Bool) (l : List Value) (L : List Chunk) : Prop :=
  ∀ w, St w0 L w → wpAnyIn (fen r) n P .any ops Q fuel listed (frd D l) w
theorem z_at (hr : Region.ready .any ops listed = [z]) (h : Hold w0 L (fun w => wpOpIn (fen r) n P ops Q z (wpAnyIn (fen r) n P .any ops Q fuel (listed.setIfInBounds z true)) (frd D l) w)) : ZHold r n P w0 ops Q D z A (fuel + 1) listed l L := fun w hw => by
  refine ⟨fun h0 => (by rw [hr] at h0; cases h0), fun j hj => ?_⟩
  rw [hr] at hj
  simp at hj
  subst hj
  exact ⟨fun _ => h w hw, fun h => absurd rfl h⟩
theorem z_none (ho : nthP ops.toList z = some o) (hr : Region.ready .any ops listed = [z]) (hg : wantL ops.toList l o.guard = false) (k : YHold r n P w0 ops Q D fuel (listed.setIfInBounds z true) (setd l o.dst undef) L) : ZHold r n P w0 ops Q D z A (fuel + 1) listed l L :=
  z_at hr fun w hw => by
    have ho' := opAt ho
    have hy : Region.wanted o (yielded ops (frd D l).tmps) = wantL ops.toList l o.guard := wanted_eq ops l o
    unfold wpOpIn
    simp only [ho', hy, hg]
    refine ⟨fun _ _ => trivial, ?_⟩
    rw [frd_put]
    exact k w hw
/-- A call of yield. -/
theorem z_yield {d : Option Tmp} {ty : TypeId} {ps : String} {af : Array Edge} {g : Option (Nat × Bool)} {x y : Operand} {lr : Nat} {u : Value} {ts : Array TypeId} {post : World → Bool → World → Prop} (ho : nthP ops.toList z = some ⟨d, .call { callee := .value x, args := #[y], argTypes := ts }, ty, ps, af, g⟩)
    (hx : ev l x = .func (.yield lr) #[] #[]) (hy : ev l y = u) (hr : Region.ready .any ops listed = [z]) (hg : wantL ops.toList l g = true) (hc : ∀ w, St w0 L w → YieldAt (fen none) 0 P lr #[u] w (fun e w' => ∃ b, e = .returned (.bool b) ∧ post w b w'))
    (k : ∀ w, St w0 L w → ∀ b w', post w b w' → YHold r n P w' ops Q D fuel (listed.setIfInBounds z true) (setd l d (.bool b)) []) : ZHold r n P w0 ops Q D z A (fuel + 1) listed l L :=
  z_at hr fun w hw => by
    have ho' := opAt ho
    have hyl : Region.wanted ⟨d, .call { callee := .value x, args := #[y], argTypes := ts }, ty, ps, af, g⟩ (yielded ops (frd D l).tmps) = wantL ops.toList l g := wanted_eq ops l _
    unfold wpOpIn
    simp only [ho', hyl, hg, if_true]
    refine ⟨fun _ _ => trivial, ?_⟩
    have hs : (⟨d, .call { callee := .value x, args := #[y], argTypes := ts }, ty, ps, af, g⟩ : Oper).semAt (fen r).round (frd D l).eval = execOp (ev l) ⟨d, .call { callee := .value x, args := #[y], argTypes := ts }, ty, ps, af, g⟩ := by
      rw [frd_eval]
      cases r with
      | none => rfl
      | some l' => exact Oper.semAt_some l' (ev l) _ (fun c hc => by cases hc)
    obtain ⟨fn, tmps, assign, body, hrun, hround⟩ := hc w hw
    rw [hs]
    have hexec : (execOp (ev l) ⟨d, .call { callee := .value x, args := #[y], argTypes := ts }, ty, ps, af, g⟩).run P w = .ok (.round lr fn tmps assign body) w := by
      simp [execOp, resolve, hx, hy, Deferred.ofValue, Sem.run_bind, Sem.run_pure, Result.andThen_ok, invoke, hrun]
    rw [hexec]
    refine ⟨fun h => (by cases h), (round_fen hround).mono ?_⟩
    rintro e w' ⟨b, rfl, h⟩
    show wpAnyIn (fen r) n P .any ops Q fuel (listed.setIfInBounds z true) ((frd D l).put d (.bool b)) w'
    rw [frd_put]
    exact k w hw b w' h w' (St.start w')
theorem y_pure (i : Nat) (ho : nthP ops.toList i = some o) (hr : Region.ready .any ops listed = [i]) (h : Pure P o l v) (hd : noDef o = true) (hg : wantL ops.toList l o.guard = true) (k : YHold r n P w0 ops Q D fuel (listed.setIfInBounds i true) (setd l o.dst v) L) : YHold r n P w0 ops Q D (fuel + 1) listed l L := fun w hw => by
  refine ⟨fun h0 => (by rw [hr] at h0; cases h0), fun j hj => ?_⟩
  rw [hr] at hj
  simp at hj
  subst hj
  have ho' := opAt ho
  have hy : Region.wanted o (yielded ops (frd D l).tmps) = wantL ops.toList l o.guard := wanted_eq ops l o
  unfold wpOpIn
  simp only [ho', hy, hg, if_true]
  refine op_in (D := D) (Q := fun _ _ _ => True) (K := fun a w' => a = fr (setd l o.dst v) ∧ w' = w) hd ?_ (OpT.of_run (h w) (R := fun v' w' => v' = v ∧ w' = w) ⟨rfl, rfl⟩ _ _ (fun v' w' hR => ⟨by rw [hR.1], hR.2⟩))
  rintro a w' ⟨rfl, rfl⟩
  exact k _ hw
theorem y_skip (i : Nat) (ho : nthP ops.toList i = some o) (hr : Region.ready .any ops listed = [i]) (hg : wantL ops.toList l o.guard = false) (k : YHold r n P w0 ops Q D fuel (listed.setIfInBounds i true) (setd l o.dst undef) L) : YHold r n P w0 ops Q D (fuel + 1) listed l L := fun w hw => by
  refine ⟨fun h0 => (by rw [hr] at h0; cases h0), fun j hj => ?_⟩
  rw [hr] at hj
  simp at hj
  subst hj
  have ho' := opAt ho
  have hy : Region.wanted o (yielded ops (frd D l).tmps) = wantL ops.toList l o.guard := wanted_eq ops l o
  unfold wpOpIn
  simp only [ho', hy, hg]
  refine ⟨fun _ _ => trivial, ?_⟩
  rw [frd_put]
  exact k w hw
theorem y_done (hr : Region.ready .any ops listed = []) (k : Hold w0 L (Q .normal (frd D l))) : YHold r n P w0 ops Q D fuel listed l L := fun w hw => by
  cases fuel with
  | zero => exact ⟨hr, k w hw⟩
  | succ n => exact ⟨fun _ => k w hw, fun j hj => by rw [hr] at hj; cases hj⟩
end
end Go.R

/-
  Loops in each round of which a range over a function may leave a mark.
  No conditions: plain lemmas over any program.
-/
namespace Go.R
open Go.RowKit Go.K
/-- The blocks of the loops that have ended. -/
def dfs (bs : List Nat) : Chunk where
  foot := fun k => k ∈ bs
  holds := fun w => bs.Nodup ∧ ∀ b ∈ bs, w.heap[b]? = some (.deferred (some []))
  loc := fun _ _ h hk => ⟨h.1, fun b hb => (hk b hb).trans (h.2 b hb)⟩
  live := fun _ k h hk => lt_of_some (h.2 k hk)
abbrev marks (bs : List Nat) : List Deferred := bs.map mark
section
variable {r : Option Nat} {n : Nat} {P : Program} {w0 : World} {L L0 : List Chunk} {Q : Exit → Act → World → Prop} {l : List Value} {x : Code} {bs : List Nat} {b : Nat} {fn : Func} {R : Ending → World → Prop} {v : Value}
theorem markJ {G : Act → World → Prop} (hs : ∀ w, St w0 L0 w → St w0 (L ++ [dfs bs, dfr b]) w) (k : Hold w0 (L ++ [dfs (b :: bs)]) (G (frd (marks (b :: bs)) l))) : Hold w0 L0 (G (frd (mark b :: marks bs) l)) := fun w hw0 => by
  have hw := hs w hw0
  have hp := List.pairwise_append.1 hw.2.2
  refine k w ⟨hw.1, fun c hc => ?_, List.pairwise_append.2 ⟨hp.1, by simp, fun c hc d hd q hk hk' => ?_⟩⟩
  · rcases List.mem_append.1 hc with hc | hc
    · exact hw.2.1 c (by simp [hc])
    · simp at hc; subst hc
      have h1 := hw.2.1 (dfs bs) (by simp)
      have h2 := hw.2.1 (dfr b) (by simp)
      have hne : b ∉ bs := fun hb => (List.pairwise_cons.1 hp.2.1).1 (dfr b) (by simp) b hb rfl
      refine ⟨⟨List.nodup_cons.2 ⟨hne, h1.1.1⟩, fun i hi => ?_⟩, fun i hi => ?_⟩
      · rcases List.mem_cons.1 hi with rfl | hi
        · exact h2.1
        · exact h1.1.2 i hi
      · rcases List.mem_cons.1 hi with rfl | hi
        · exact h2.2 _ rfl
        · exact h1.2 i hi
  · simp at hd; subst hd
    rcases List.mem_cons.1 hk' with e | hi
    · exact hp.2.2 c hc (dfr b) (by simp) _ hk e
    · exact hp.2.2 c hc (dfs bs) (by simp) _ hk hi
theorem no_marks {w : World} (h : St w0 L w) : St w0 (L ++ [dfs []]) w :=
  ⟨h.1, fun c hc => by
    rcases List.mem_append.1 hc with hc | hc
    · exact h.2.1 c hc
    · simp at hc; subst hc; exact ⟨by simp [dfs], by simp [dfs]⟩, List.pairwise_append.2 ⟨h.2.2, by simp, fun c _ d hd k _ hk' => by simp at hd; subst hd; simp [dfs] at hk'⟩⟩
def RoundEndD (w0 : World) (J : List Value → List Chunk → Prop) (μ : List Value → Nat) (wi wr : List Nat) (l0 vi : List Value) : Act → World → Prop :=
  fun a w => ∃ vi' vr' L'' bs', a = frd (marks bs') (setF vr' (setM l0 wi vi') wr) ∧ J vi' L'' ∧ μ vi' < μ vi ∧ St w0 (L'' ++ [dfs bs']) w
theorem loopD (wi wr : List Nat) (J : List Value → List Chunk → Prop) (μ : List Value → Nat) (h0 : J (wi.map (nth l)) L)
    (round : ∀ vi vr L' bs, J vi L' → Hold w0 (L' ++ [dfs bs]) (x.wpIn (fen r) n P (Exit.then (RoundEndD w0 J μ wi wr l vi) Q) (frd (marks bs) (setF vr (setM l wi vi) wr)))) :
    Hold w0 L ((Code.loop x).wpIn (fen r) n P Q (frd [] l)) := by
  intro w hw
  refine wpIn_loop_ghost (fun n a w => ∃ vi vr L' bs, a = frd (marks bs) (setF vr (setM l wi vi) wr) ∧ J vi L' ∧ μ vi = n ∧ St w0 (L' ++ [dfs bs]) w) _ ⟨_, nth l, L, [], by rw [setM_self, setF_self]; rfl, h0, rfl, no_marks hw⟩ ?_
  rintro n a w ⟨vi, vr, L1, bs, rfl, hJ, rfl, hst⟩
  refine wpIn_mono (round vi vr L1 bs hJ w hst) (fun e a' w' hq => ?_)
  cases e with
  | normal =>
    obtain ⟨vi', vr', L2, bs', rfl, hJ', hlt, hst'⟩ := hq
    exact ⟨_, hlt, vi', vr', L2, bs', rfl, hJ', rfl, hst'⟩
  | _ => exact hq
theorem round_endD {J : List Value → List Chunk → Prop} {μ : List Value → Nat} {wi wr : List Nat} {vi l0 : List Value} {L'' : List Chunk} (vi' : List Value) (hJ : J vi' L'') (hμ : μ vi' < μ vi) (hs : List.Sublist (L'' ++ [dfs bs]) L) (he : l = setF (nth l) (setM l0 wi vi') wr) :
    Hold w0 L (Exit.then (RoundEndD w0 J μ wi wr l0 vi) Q .normal (frd (marks bs) l)) := fun w hw =>
  ⟨vi', nth l, L'', bs, by rw [← he], hJ, hμ, hw.sub hs⟩
theorem dfs_drop {w : World} (b : Nat) (hw : St w0 (L ++ [dfs (b :: bs)]) w) (hn : b ∉ bs) : St w0 (L ++ [dfs bs]) (w.putObj b (.deferred none)) := by
  refine hw.upd (row := some b) ⟨L, [], rfl, rfl⟩ (grownBy_putObj' w b _) (fun k hk => by cases hk; exact List.mem_cons_self) ?_ (fun k hk => .inl (List.mem_cons_of_mem _ hk))
  have h1 := (hw.2.1 (dfs (b :: bs)) (by simp)).1
  refine ⟨(List.nodup_cons.1 h1.1).2, fun i hi => ?_⟩
  rw [World.putObj_heap_other (fun e => hn (by first | exact e ▸ hi | exact e.symm ▸ hi))]
  exact h1.2 i (List.mem_cons_of_mem _ hi)
theorem leavesD (hr : ∀ w, St w0 L w → (results fn l.toArray).run P w = .ok v w) (k : Hold w0 L (R (.returned v))) : ∀ (bs : List Nat) (w : World), St w0 (L ++ [dfs bs]) w → LeavesInM (fen none) 0 P fn l.toArray R (marks bs) .returning w
  | [], w, hw => ⟨v, hr w (hw.sub (by simp)), k w (hw.sub (by simp))⟩
  | b :: bs, w, hw => by
    have h0 := (hw.2.1 (dfs (b :: bs)) (by simp)).1
    have h1 : w.heap[b]? = some (.deferred (some [])) := h0.2 b List.mem_cons_self
    have hn' := List.nodup_cons.1 h0.1
    exact ⟨by simp, .inl ⟨b, _, rfl, run_takeDeferred h1, leavesD hr k bs _ (dfs_drop b hw hn'.1)⟩⟩
theorem draw_take {id : Nat} {D : List Deferred} {lo : List Oper} (m : Nat) (bl : List Nat) (hm : P.follows .mixedOrders = true) (hd : lo.all noDef = true) (k : DHold P w0 lo.toArray (onlyN D Q) (L.take m) bl lo.length (Array.replicate lo.length false) l L) : Hold w0 L ((Code.region id lo.toArray true).wpIn (fen r) n P Q (frd D l)) := draw_A (L.take m) bl hm hd k
theorem end_retD {L' : List Chunk} (hL : L' = L'.dropLast ++ [dfs bs]) (hr : ∀ w, St w0 L'.dropLast w → (results fn l.toArray).run P w = .ok v w) (k : Hold w0 L'.dropLast (R (.returned v))) : Hold w0 L' (bodyPostM (fen none) 0 P fn R .ret (frd (marks bs) l)) := by
  rw [hL]; exact fun w hw => leavesD hr k bs w hw
theorem end_normalD {L' : List Chunk} (hL : L' = L'.dropLast ++ [dfs bs]) (hr : ∀ w, St w0 L'.dropLast w → (results fn l.toArray).run P w = .ok v w) (k : Hold w0 L'.dropLast (R (.returned v))) : Hold w0 L' (bodyPostM (fen none) 0 P fn R .normal (frd (marks bs) l)) := by
  rw [hL]; exact fun w hw => leavesD hr k bs w hw
theorem fixN : ∀ c ∈ ([] : List Chunk), ∃ b t cs, c = blk b t cs := by simp
theorem fixC {F : List Chunk} {b : Nat} {t : TypeId} {cs : List Value} (h : ∀ c ∈ F, ∃ b t cs, c = blk b t cs) : ∀ c ∈ blk b t cs :: F, ∃ b t cs, c = blk b t cs := fun c hc => by
  rcases List.mem_cons.1 hc with rfl | hc
  · exact ⟨_, _, _, rfl⟩
  · exact h c hc
end
end Go.R
