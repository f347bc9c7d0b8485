/-
  Plain lemmas and plain functions, several texts joined.
  Conditions stand in each theorem.
-/
import Derived.Test.YtoemnobfnnjopaaDoorK2
import Derived.RangeFuncLeaves
import Derived.RangeFuncSeq
import Derived.OrdersIn
import Derived.Sort.LoopGhostIn
import Derived.TacticsIn
import Derived.RangeFuncOwn
set_option linter.unusedSimpArgs false
set_option linter.unusedVariables false
/-
  Ranges over functions: the rules of code where an activation may be a loop's round, or bear a loop's mark.
  No conditions: plain lemmas over any program.
-/
namespace Go.R
open Go.RowKit Go.K
/-- No fence, in a round of loop r or in none. -/
def fen (r : Option Nat) : Fence := { Fence.wide with round := r }
/-- A frame, with the calls that it has deferred. -/
def frd (D : List Deferred) (l : List Value) : Act := { tmps := l.toArray, defers := D }
theorem frd_nil (l : List Value) : frd [] l = fr l := rfl
theorem frd_eval (D : List Deferred) (l : List Value) : (frd D l).eval = ev l := fr_eval l
theorem frd_put (D : List Deferred) (l : List Value) (d : Option Tmp) (v : Value) : (frd D l).put d v = frd D (setd l d v) := by
  have h := fr_put l d v
  cases d with
  | none => rfl
  | some d =>
    simp only [Act.put, fr, frd, setd] at h ⊢
    injection h with h1 _
    rw [h1]
theorem calls_fen {r : Option Nat} {n : Nat} {P : Program} {f : FuncId} {args : Array Value} {w : World} {R : Ending → World → Prop} (h : Calls P f args w R) : CallsIn (fen r) n P f args w R :=
  (callsIn_wide (n := n)).2 h
theorem fen_calls {n : Nat} {P : Program} {f : FuncId} {args : Array Value} {w : World} {R : Ending → World → Prop} (h : CallsIn (fen none) n P f args w R) : Calls P f args w R :=
  (callsIn_wide (n := n)).1 h
def noDef (o : Oper) : Bool := match o.op with | .defer _ => false | _ => true
/-- Only a normal end. -/
def onlyN (D : List Deferred) (Q : Exit → Act → World → Prop) : Exit → Act → World → Prop
  | .normal, a, w => ∃ l, a = fr l ∧ Q .normal (frd D l) w
  | _, _, _ => False
theorem onlyN_lets {D : List Deferred} {Q : Exit → Act → World → Prop} : ¬ LetsOut (onlyN D Q) := fun ⟨_, _, h⟩ => h
/-- An activation, with further deferred calls below its own. -/
def app (D : List Deferred) (a : Act) : Act := { a with defers := a.defers ++ D }
theorem app_fr (D : List Deferred) (l : List Value) : app D (fr l) = frd D l := rfl
theorem app_eval (D : List Deferred) (a : Act) : (app D a).eval = a.eval := by funext x; cases x <;> rfl
theorem app_put (D : List Deferred) (a : Act) (d : Option Tmp) (v : Value) : (app D a).put d v = app D (a.put d v) := by cases d <;> rfl
theorem rows_fen {r : Option Nat} {n : Nat} {P : Program} {row : String} {args : Array Value} {w : World} {R : Value → World → Prop} (h : Rows P row args w R) : RowsIn (fen r) n P row args w R :=
  fun c cs _ => let ⟨v, w', h1, s⟩ := h c cs; ⟨v, w', h1, stepsIn_wide.2 s⟩
/-- One operation, taken over. -/
theorem op_in {r : Option Nat} {n : Nat} {P : Program} {o : Oper} {a : Act} {w : World} {D : List Deferred} {K : Act → World → Prop} {Q Q' : Exit → Act → World → Prop} {K' : Act → World → Prop} (hd : noDef o = true) (hK : ∀ a w, K a w → K' (app D a) w)
    (h : o.wp P a w K (onlyN D Q)) : o.wpIn (fen r) n P (app D a) w K' Q' := by
  refine ⟨fun _ _ => trivial, ?_⟩
  have hs : o.semAt (fen r).round (app D a).eval = execOp a.eval o := by
    rw [app_eval]
    cases r with
    | none => rfl
    | some l' => exact Oper.semAt_some l' a.eval o (fun c hc => by unfold noDef at hd; rw [hc] at hd; cases hd)
  rw [hs]
  unfold Oper.wp at h
  cases hr : (execOp a.eval o).run P w with
  | ok x w' =>
    rw [hr] at h
    cases x with
    | value v => rw [Oper.upon_value] at h; show K' ((app D a).put o.dst v) w'; rw [app_put]; exact hK _ _ h
    | skip => rw [Oper.upon_skip] at h; show K' ((app D a).put o.dst undef) w'; rw [app_put]; exact hK _ _ h
    | defer d =>
      have h1 : K ({ a with defers := d :: a.defers }.put o.dst undef) w' := h
      show K' ({ app D a with defers := d :: (app D a).defers }.put o.dst undef) w'
      have h2 := hK _ _ h1
      rw [← app_put] at h2
      exact h2
    | enter f args =>
      rw [Oper.upon_enter] at h
      refine ⟨fun h1 => (by cases h1), calls_fen (h.mono ?_)⟩
      intro e w'' he
      cases e with
      | returned v =>
        have he' : K (a.put o.dst v) w'' := he
        show K' ((app D a).put o.dst v) w''
        rw [app_put]; exact hK _ _ he'
      | panicked c => exact (show False from he).elim
      | outgrown => exact (onlyN_lets he).elim
    | row row args =>
      have h1 : Rows P row args w' fun v w'' => K (a.put o.dst v) w'' := h
      refine ⟨fun h1 => (by cases h1), (rows_fen h1).mono ?_⟩
      intro v w'' he
      show K' ((app D a).put o.dst v) w''
      rw [app_put]; exact hK _ _ he
    | _ => exact (show False from h).elim
  | halt x w' =>
    rw [hr] at h
    cases x <;> exact (show False from h).elim
theorem list_in {r : Option Nat} {n : Nat} {P : Program} {ops : Array Oper} {D : List Deferred} {Q : Exit → Act → World → Prop} : ∀ (lo : List Oper) (a : Act) (w : World), lo.all noDef = true → wpList P ops (onlyN D Q) lo a w → wpListIn (fen r) n P ops Q lo (app D a) w
  | [], a, w, _, h => by obtain ⟨l, rfl, hq⟩ := h; exact hq
  | o :: lo, a, w, hd, h => by
    simp only [List.all_cons, Bool.and_eq_true] at hd
    unfold wpList at h
    unfold wpListIn
    have hy : yielded ops (app D a).tmps = yielded ops a.tmps := rfl
    rw [hy]
    split
    · rename_i hw
      rw [if_pos hw] at h
      rcases h with h | ⟨_, h⟩
      · exact op_in hd.1 (fun a w => list_in lo a w hd.2) h
      · exact (onlyN_lets h).elim
    · rename_i hw
      rw [if_neg hw] at h
      refine ⟨fun _ _ => trivial, ?_⟩
      rw [app_put]
      exact list_in lo _ w hd.2 h
theorem any_in {r : Option Nat} {n : Nat} {P : Program} {ops : Array Oper} {D : List Deferred} {Q : Exit → Act → World → Prop} (hd : ops.toList.all noDef = true) : ∀ (fuel : Nat) (listed : Array Bool) (a : Act) (w : World), wpAny P .any ops (onlyN D Q) fuel listed a w → wpAnyIn (fen r) n P .any ops Q fuel listed (app D a) w
  | 0, listed, a, w, h => ⟨h.1, by obtain ⟨l, rfl, hq⟩ := h.2; exact hq⟩
  | fuel + 1, listed, a, w, h => by
    refine ⟨fun h0 => by obtain ⟨l, rfl, hq⟩ := h.1 h0; exact hq, fun i hi => ?_⟩
    have h1 := h.2 i hi
    unfold wpOp at h1
    unfold wpOpIn
    cases ho : ops[i]? with
    | none => rw [ho] at h1; exact any_in hd fuel _ _ _ h1
    | some o =>
      rw [ho] at h1
      have hdo : noDef o = true := List.all_eq_true.1 hd o (by
        have := Array.mem_of_getElem? ho
        simpa using this)
      have hy : yielded ops (app D a).tmps = yielded ops a.tmps := rfl
      simp only [hy] at h1 ⊢
      split
      · rename_i hw
        simp only [hw, if_true] at h1
        rcases h1 with h1 | ⟨_, h1⟩
        · exact op_in hdo (fun a w => any_in hd fuel _ a w) h1
        · exact (onlyN_lets h1).elim
      · rename_i hw
        rw [if_neg hw] at h1
        refine ⟨fun _ _ => trivial, ?_⟩
        rw [app_put]
        exact any_in hd fuel _ _ w h1
section
variable {r : Option Nat} {n : Nat} {P : Program} {w0 : World} {L : List Chunk} {D : List Deferred} {Q : Exit → Act → World → Prop} {l : List Value} {x y : Code} {id m : Nat} {c : Operand} {b : Bool}
theorem seq (k : Hold w0 L (x.wpIn (fen r) n P (Exit.then (y.wpIn (fen r) n P Q) Q) (frd D l))) : Hold w0 L ((Code.seq x y).wpIn (fen r) n P Q (frd D l)) := fun w hw => wpIn_seq (k w hw)
theorem skip (k : Hold w0 L (Q .normal (frd D l))) : Hold w0 L (Code.skip.wpIn (fen r) n P Q (frd D l)) := fun w hw => wpIn_skip (k w hw)
theorem label (k : Hold w0 L (Q .normal (frd D l))) : Hold w0 L ((Code.label m).wpIn (fen r) n P Q (frd D l)) := fun w hw => wpIn_label (k w hw)
theorem exit (k : Hold w0 L (Q (.exit id) (frd D l))) : Hold w0 L ((Code.exit id).wpIn (fen r) n P Q (frd D l)) := fun w hw => wpIn_exit (k w hw)
theorem ret (k : Hold w0 L (Q .ret (frd D l))) : Hold w0 L (Code.ret.wpIn (fen r) n P Q (frd D l)) := fun w hw => wpIn_ret (k w hw)
theorem block (k : Hold w0 L (x.wpIn (fen r) n P (Exit.inBlock id Q) (frd D l))) : Hold w0 L ((Code.block id x).wpIn (fen r) n P Q (frd D l)) := fun w hw => wpIn_block (k w hw)
theorem scope (k : Hold w0 L (x.wpIn (fen none) n P (Exit.noGoto Q) (frd D l))) : Hold w0 L ((Code.scope x).wpIn (fen none) n P Q (frd D l)) := fun w hw => (wpIn_wide (n := n)).2 (wp_scope_straight ((wpIn_wide (n := n)).1 (k w hw)))
theorem cond (hc : ev l c = .bool b) (kt : b = true → Hold w0 L (x.wpIn (fen r) n P Q (frd D l))) (kf : b = false → Hold w0 L (y.wpIn (fen r) n P Q (frd D l))) : Hold w0 L ((Code.cond c x y).wpIn (fen r) n P Q (frd D l)) :=
  fun w hw => wpIn_cond_split (t := b) (by rw [frd_eval]; exact hc) (fun h => kt h w hw) (fun h => kf h w hw)
theorem cond_true (hc : ev l c = .bool true) (kt : Hold w0 L (x.wpIn (fen r) n P Q (frd D l))) : Hold w0 L ((Code.cond c x y).wpIn (fen r) n P Q (frd D l)) := cond hc (fun _ => kt) (fun h => by cases h)
theorem cond_false (hc : ev l c = .bool false) (kf : Hold w0 L (y.wpIn (fen r) n P Q (frd D l))) : Hold w0 L ((Code.cond c x y).wpIn (fen r) n P Q (frd D l)) := cond hc (fun h => by cases h) (fun _ => kf)
theorem region_lit {lo : List Oper} (hd : lo.all noDef = true) (k : Hold w0 L (wpList P lo.toArray (onlyN D Q) lo (fr l))) : Hold w0 L ((Code.region id lo.toArray false).wpIn (fen r) n P Q (frd D l)) :=
  fun w hw => wpIn_region_lit (by have := list_in (r := r) (n := n) lo (fr l) w hd (k w hw); exact this)
theorem out (k : Hold w0 L (Q .normal (frd D l))) : Hold w0 L (onlyN D Q .normal (fr l)) := fun w hw => ⟨l, rfl, k w hw⟩
theorem draw_A {lo : List Oper} (A : List Chunk) (bl : List Nat) (hm : P.follows .mixedOrders = true) (hd : lo.all noDef = true) (k : DHold P w0 lo.toArray (onlyN D Q) A bl lo.length (Array.replicate lo.length false) l L) :
    Hold w0 L ((Code.region id lo.toArray true).wpIn (fen r) n P Q (frd D l)) := fun w hw => by
  have h1 := wpAny_noPanic _ _ _ _ (wpAny_of_U _ _ _ _ (k _ hw.drew))
  have h2 := any_in (r := r) (n := n) (by simpa using hd) _ _ _ _ h1
  refine wpIn_region_any hm ?_
  rw [List.size_toArray]
  exact h2
theorem draw_L {lo : List Oper} (bl : List Nat) (hm : P.follows .mixedOrders = true) (hd : lo.all noDef = true) (k : DHold P w0 lo.toArray (onlyN D Q) L bl lo.length (Array.replicate lo.length false) l L) : Hold w0 L ((Code.region id lo.toArray true).wpIn (fen r) n P Q (frd D l)) := draw_A L bl hm hd k
theorem draw_drop {lo : List Oper} (m : Nat) (bl : List Nat) (hm : P.follows .mixedOrders = true) (hd : lo.all noDef = true) (k : DHold P w0 lo.toArray (onlyN D Q) (L.drop m) bl lo.length (Array.replicate lo.length false) l L) : Hold w0 L ((Code.region id lo.toArray true).wpIn (fen r) n P Q (frd D l)) := draw_A (L.drop m) bl hm hd k
/-! The ways through. -/
theorem exit_here {a : Act} (k : Hold w0 L (Q .normal a)) : Hold w0 L (Exit.inBlock id Q (.exit id) a) := fun w hw => by
  unfold Exit.inBlock
  simp only [if_true]
  exact k w hw
theorem exit_out {a : Act} {id' : Nat} (h : (id' == id) = false) (k : Hold w0 L (Q (.exit id') a)) : Hold w0 L (Exit.inBlock id Q (.exit id') a) := fun w hw => by
  have : id' ≠ id := by simpa using h
  unfold Exit.inBlock
  simp only [this, if_false]
  exact k w hw
theorem exit_then {a : Act} {K : Act → World → Prop} (k : Hold w0 L (Q (.exit id) a)) : Hold w0 L (Exit.then K Q (.exit id) a) := k
theorem ret_block {a : Act} (k : Hold w0 L (Q .ret a)) : Hold w0 L (Exit.inBlock id Q .ret a) := k
theorem ret_then {a : Act} {K : Act → World → Prop} (k : Hold w0 L (Q .ret a)) : Hold w0 L (Exit.then K Q .ret a) := k
theorem norm_block {a : Act} (k : Hold w0 L (Q .normal a)) : Hold w0 L (Exit.inBlock id Q .normal a) := k
theorem norm_then {a : Act} {K : Act → World → Prop} (k : Hold w0 L (K a)) : Hold w0 L (Exit.then K Q .normal a) := k
def RoundEnd (D : List Deferred) (w0 : World) (J : List Value → List Chunk → Prop) (μ : List Value → Nat) (wi wr : List Nat) (l0 vi : List Value) : Act → World → Prop :=
  fun a w => ∃ vi' vr' L'', a = frd D (setF vr' (setM l0 wi vi') wr) ∧ J vi' L'' ∧ μ vi' < μ vi ∧ St w0 L'' w
theorem loopW (wi wr : List Nat) (J : List Value → List Chunk → Prop) (μ : List Value → Nat) (h0 : J (wi.map (nth l)) L)
    (round : ∀ vi vr L', J vi L' → Hold w0 L' (x.wpIn (fen r) n P (Exit.then (RoundEnd D w0 J μ wi wr l vi) Q) (frd D (setF vr (setM l wi vi) wr)))) :
    Hold w0 L ((Code.loop x).wpIn (fen r) n P Q (frd D l)) := by
  intro w hw
  refine wpIn_loop_ghost (fun n a w => ∃ vi vr L', a = frd D (setF vr (setM l wi vi) wr) ∧ J vi L' ∧ μ vi = n ∧ St w0 L' w) _ ⟨_, nth l, L, by rw [setM_self, setF_self], h0, rfl, hw⟩ ?_
  rintro n a w ⟨vi, vr, L1, rfl, hJ, rfl, hst⟩
  refine wpIn_mono (round vi vr L1 hJ w hst) (fun e a' w' hq => ?_)
  cases e with
  | normal =>
    obtain ⟨vi', vr', L2, rfl, hJ', hlt, hst'⟩ := hq
    exact ⟨_, hlt, vi', vr', L2, rfl, hJ', rfl, hst'⟩
  | _ => exact hq
theorem round_endW {J : List Value → List Chunk → Prop} {μ : List Value → Nat} {wi wr : List Nat} {vi l0 : List Value} {L'' : List Chunk} (vi' : List Value) (hJ : J vi' L'') (hμ : μ vi' < μ vi) (hs : List.Sublist L'' L) (he : l = setF (nth l) (setM l0 wi vi') wr) :
    Hold w0 L (Exit.then (RoundEnd D w0 J μ wi wr l0 vi) Q .normal (frd D l)) := fun w hw =>
  ⟨vi', nth l, L'', by rw [← he], hJ, hμ, hw.sub hs⟩
end
end Go.R

/-
  Ranges over functions: iterators' contracts, the statement's rule, functions that hold one.
  No conditions: plain lemmas over any program.
-/
namespace Go.R
open Go.RowKit Go.K
/-- One object of memory. -/
def obj (b : Nat) (o : Obj) : Chunk where
  foot := fun k => k = b
  holds := fun w => w.heap[b]? = some o
  loc := fun _ _ h hk => (hk b rfl).trans h
  live := fun _ k h hk => by subst hk; exact lt_of_some h
def nul : Chunk where
  foot := fun _ => False
  holds := fun _ => True
  loc := fun _ _ _ _ => trivial
  live := fun _ _ _ h => h.elim
def dfr (b : Nat) : Chunk := obj b (.deferred (some []))
def mark (b : Nat) : Deferred := { target := .collected b, args := #[] }
/-- What is not the caller's lies as it lay. -/
def Kept (f : Nat → Prop) (w w' : World) : Prop := ∀ i, i < w.heap.size → ¬ f i → w'.heap[i]? = w.heap[i]?
theorem Kept.refl (f : Nat → Prop) (w : World) : Kept f w w := fun _ _ _ => rfl
def Grew (f : Nat → Prop) (w : World) (f' : Nat → Prop) : Prop := ∀ i, f' i → f i ∨ w.heap.size ≤ i
/-- A caller's state abides what an iterator does between two rounds: new blocks. -/
def Abides (J : Nat → (Nat → Prop) → World → Prop) : Prop := ∀ k f w w', J k f w → Below w.heap.size w w' → J k f w'
/-- One call of yield. -/
def RoundOK {α : Type} (P : Program) (lr : Nat) (enc : α → Value) (XS : List α) (J Jx : Nat → (Nat → Prop) → World → Prop) : Prop :=
  ∀ k x f w, XS[k]? = some x → J k f w → YieldAt (fen none) 0 P lr #[enc x] w fun e w' => ∃ f', Grew f w f' ∧ Kept f w w' ∧ (∀ i, f' i → i < w'.heap.size) ∧ ((e = .returned (.bool true) ∧ J (k + 1) f' w') ∨ (e = .returned (.bool false) ∧ Jx (k + 1) f' w'))
/-- The function hands yield the things of XS in order, until yield returns false. -/
def Iter {α : Type} (P : Program) (g : FuncId) (enc : α → Value) (XS : List α) : Prop :=
  ∀ (lr : Nat) (J Jx : Nat → (Nat → Prop) → World → Prop) (f : Nat → Prop) (w : World), Abides J → Abides Jx → (∀ i, f i → i < w.heap.size) → RoundOK P lr enc XS J Jx → J 0 f w →
    Calls P g #[.func (.yield lr) #[] #[]] w fun e w' => (∃ v, e = .returned v) ∧ ((∃ f', J XS.length f' w') ∨ (∃ k f', k ≤ XS.length ∧ Jx k f' w'))
/-- The rest of memory, as one chunk. -/
def oth (B : Nat) (L : List Chunk) (W : World) : Chunk where
  foot := fun i => B ≤ i ∧ i < W.heap.size ∧ ¬ ∃ c ∈ L, c.foot i
  holds := fun w => ∀ i, B ≤ i → i < W.heap.size → (¬ ∃ c ∈ L, c.foot i) → w.heap[i]? = W.heap[i]?
  loc := fun w w' h hk i h1 h2 h3 => (hk i ⟨h1, h2, h3⟩).trans (h i h1 h2 h3)
  live := fun w i h hi => by
    have := h i hi.1 hi.2.1 hi.2.2
    rw [Array.getElem?_eq_getElem hi.2.1] at this
    exact (Array.getElem?_eq_some_iff.1 this).1
/-- Three chunks as one. -/
def both (c d : Chunk) : Chunk where
  foot := fun k => c.foot k ∨ d.foot k
  holds := fun w => c.holds w ∧ d.holds w
  loc := fun w w' h hk => ⟨c.loc w w' h.1 (fun k hc => hk k (.inl hc)), d.loc w w' h.2 (fun k hd => hk k (.inr hd))⟩
  live := fun w k h hk => hk.elim (c.live w k h.1) (d.live w k h.2)
/-- How a round may be left. -/
def RP (w0 : World) (JL : Nat → List Chunk → Prop) (JX : Code → List Chunk → Prop) (k : Nat) (E : Chunk) : Exit → Act → World → Prop
  | .normal, _, w => ∃ L, JL (k + 1) L ∧ St w0 (L ++ [E]) w
  | .ret, _, w => ∃ L, JX .ret L ∧ St w0 (L ++ [E]) w
  | .exit id, _, w => ∃ L, JX (.exit id) L ∧ St w0 (L ++ [E]) w
  | _, _, _ => False
/-- Behind the assignments of a round. -/
def Body (P : Program) (w0 : World) (JL : Nat → List Chunk → Prop) (JX : Code → List Chunk → Prop) (k lr : Nat) (body : Code) (E1 : Chunk) : Act → World → Prop :=
  fun a w => ∃ l2 L2, a = frd [] l2 ∧ St w0 (L2 ++ [E1]) w ∧ ∀ E, Hold w0 (L2 ++ [E]) (body.wpIn (fen (some lr)) 0 P (RP w0 JL JX k E) (frd [] l2))
theorem body {P : Program} {w0 : World} {JL : Nat → List Chunk → Prop} {JX : Code → List Chunk → Prop} {k lr : Nat} {b : Code} {E1 : Chunk} {l2 : List Value} {L2 : List Chunk}
    (h : ∀ E, Hold w0 (L2 ++ [E]) (b.wpIn (fen (some lr)) 0 P (RP w0 JL JX k E) (frd [] l2))) : Hold w0 (L2 ++ [E1]) (Body P w0 JL JX k lr b E1 (frd [] l2)) := fun _ hw => ⟨l2, L2, rfl, hw, h⟩
theorem rp_normal {w0 : World} {JL : Nat → List Chunk → Prop} {JX : Code → List Chunk → Prop} {k : Nat} {E : Chunk} {a : Act} {L L' : List Chunk} (h : JL (k + 1) L) (hs : List.Sublist (L ++ [E]) L') : Hold w0 L' (RP w0 JL JX k E .normal a) := fun _ hw => ⟨L, h, hw.sub hs⟩
theorem rp_ret {w0 : World} {JL : Nat → List Chunk → Prop} {JX : Code → List Chunk → Prop} {k : Nat} {E : Chunk} {a : Act} {L L' : List Chunk} (h : JX .ret L) (hs : List.Sublist (L ++ [E]) L') : Hold w0 L' (RP w0 JL JX k E .ret a) := fun _ hw => ⟨L, h, hw.sub hs⟩
theorem rp_exit {w0 : World} {JL : Nat → List Chunk → Prop} {JX : Code → List Chunk → Prop} {k id : Nat} {E : Chunk} {a : Act} {L L' : List Chunk} (h : JX (.exit id) L) (hs : List.Sublist (L ++ [E]) L') : Hold w0 L' (RP w0 JL JX k E (.exit id) a) := fun _ hw => ⟨L, h, hw.sub hs⟩
theorem st_snoc {w0 w : World} {L : List Chunk} {E : Chunk} (h : St w0 L w) (hE : E.holds w) (hb : ∀ k, E.foot k → w0.heap.size ≤ k) (hd : ∀ c ∈ L, ∀ k, c.foot k → ¬ E.foot k) : St w0 (L ++ [E]) w :=
  ⟨h.1, fun c hc => by
    rcases List.mem_append.1 hc with hc | hc
    · exact h.2.1 c hc
    · simp at hc; subst hc; exact ⟨hE, hb⟩, List.pairwise_append.2 ⟨h.2.2, by simp, fun c hc d hd' k hk => by simp at hd'; subst hd'; exact hd c hc k hk⟩⟩
theorem st_front {w0 w : World} {L : List Chunk} {E : Chunk} (h : St w0 (L ++ [E]) w) : St w0 L w ∧ E.holds w ∧ (∀ k, E.foot k → w0.heap.size ≤ k) ∧ ∀ c ∈ L, ∀ k, c.foot k → ¬ E.foot k :=
  ⟨h.sub (by simp), (h.2.1 E (by simp)).1, (h.2.1 E (by simp)).2, fun c hc k hk => (List.pairwise_append.1 h.2.2).2.2 c hc E (by simp) k hk⟩
theorem st_below {w0 w w' : World} {L : List Chunk} (h : St w0 L w) (hb : Below w.heap.size w w') : St w0 L w' :=
  h.keep (hb.mono h.1.size) (fun c hc k hk => hb.block k (h.lt hc hk))
theorem st_put {w0 w : World} {L : List Chunk} {E E' : Chunk} {b : Nat} {o : Obj} (h : St w0 (L ++ [E]) w) (hb : E.foot b) (hE : E'.holds (w.putObj b o)) (hf : ∀ k, E'.foot k → E.foot k) : St w0 (L ++ [E']) (w.putObj b o) :=
  h.upd (row := some b) ⟨L, [], rfl, rfl⟩ (grownBy_putObj' w b o) (fun k hk => by cases hk; exact hb) hE (fun k hk => .inl (hf k hk))
def foots (L : List Chunk) : Nat → Prop := fun i => ∃ c ∈ L, c.foot i
theorem wide_seq {n : Nat} {P : Program} {c : Code} {r : Option Nat} {Q Q' : Exit → Act → World → Prop} {a : Act} {w : World} (h : c.wpIn (fen r) n P Q a w) (hq : ∀ e a w, Q e a w → Q' e a w) : c.wpIn (fen r) n P Q' a w := Go.wpIn_mono h hq
theorem rangeF {α : Type} {P : Program} {w0 : World} {L : List Chunk} {Q : Exit → Act → World → Prop} {l : List Value} {g : Operand} {p : Tmp} {assign body : Code} {gf : FuncId} {enc : α → Value} {XS : List α} {n : Nat}
    (hg : ev l g = .func (.func gf) #[] #[]) (hcal : callable P gf = true) (hit : Iter P gf enc XS) (JL : Nat → List Chunk → Prop) (JX : Code → List Chunk → Prop) (h0 : JL 0 L)
    (round : ∀ k x L' lr E, XS[k]? = some x → JL k L' → Hold w0 (L' ++ [E]) (assign.wpIn (fen (some lr)) 0 P (Exit.then (Body P w0 JL JX k lr body E) (fun _ _ _ => False)) (frd [] (setn l p (enc x)))))
    (done : ∀ b L', JL XS.length L' → Hold w0 (L' ++ [dfr b]) (Q .normal (frd [mark b] l)))
    (stop : ∀ b c L', JX c L' → Hold w0 (L' ++ [dfr b]) (c.wpIn (fen none) n P Q (frd [mark b] l))) :
    Hold w0 L ((Code.rangeFunc g #[p] assign body).wpIn (fen none) n P Q (frd [] l)) := by
  intro w hw
  refine wpIn_rangeFunc ?_
  intro fn hfn
  obtain ⟨rc, hrc⟩ : ∃ rc : LoopState → Option Code → Loop, rc = fun st pe => { state := st, pending := pe, fn, tmps := l.toArray, params := #[p], assign, body, defers := w.heap.size } := ⟨_, rfl⟩
  obtain ⟨W1, hW1⟩ : ∃ W1, (w.alloc (.deferred (some []))).alloc (.loop (rc .ready none)) = W1 := ⟨_, rfl⟩
  obtain ⟨rd, hrd⟩ : ∃ rd : Chunk, rd = both (obj (w.heap.size + 1) (.loop (rc .ready none))) (dfr w.heap.size) := ⟨_, rfl⟩
  have hfr : ∀ (s : LoopState) (pe : Option Code) k, (both (obj (w.heap.size + 1) (.loop (rc s pe))) (dfr w.heap.size)).foot k ↔ (k = w.heap.size + 1 ∨ k = w.heap.size) := fun _ _ _ => Iff.rfl
  have hst1 : St w0 (L ++ [rd]) W1 := by
    have hb1 : Below w.heap.size w W1 := by
      rw [← hW1]; exact ((Below.refl _ w).alloc (Nat.le_refl _) _).alloc (by simp) _
    refine st_snoc (st_below hw hb1) ?_ (fun k hk => ?_) (fun c hc k hk hk' => ?_)
    · subst hrd
      refine ⟨?_, ?_⟩
      · show W1.heap[w.heap.size + 1]? = _
        rw [← hW1]; have := World.alloc_heap_new (w.alloc (.deferred (some []))) (.loop (rc .ready none)); rwa [World.size_alloc] at this
      · show W1.heap[w.heap.size]? = _
        rw [← hW1]; exact (Below.heap_alloc _ _ _ (by simp)).trans (World.alloc_heap_new w _)
    · subst hrd
      have := hw.1.size
      rcases hk with hk | hk
      · have : k = w.heap.size + 1 := hk
        omega
      · have : k = w.heap.size := hk
        omega
    · subst hrd
      have := hw.lt hc hk
      rcases hk' with hk' | hk'
      · have : k = w.heap.size + 1 := hk'
        omega
      · have : k = w.heap.size := hk'
        omega
  refine ⟨w.heap.size + 1, [mark w.heap.size], W1, { target := .fn (.func gf) #[], args := #[.func (.yield (w.heap.size + 1)) #[] #[]] }, W1, gf,
    #[.func (.yield (w.heap.size + 1)) #[] #[]], W1, ?_, ?_, fun _ _ => trivial, ?_, fun h => (by cases h), ?_⟩
  · rw [← hW1, hrc]; exact run_enterLoop_outer _ _ _ _ _
  · have he : (frd [] l).eval g = .func (.func gf) #[] #[] := by rw [frd_eval]; exact hg
    simp only [resolve, he]
    simp [go_sem]
  · simp [invoke, go_sem, run_call hcal]
  · refine calls_fen ((hit (w.heap.size + 1)
      (fun k f W => ∃ L', JL k L' ∧ St w0 (L' ++ [rd]) W ∧ f = foots (L' ++ [rd]))
      (fun k f W => ∃ c L', JX c L' ∧ St w0 (L' ++ [both (obj (w.heap.size + 1) (.loop (rc .done (some c)))) (dfr w.heap.size)]) W)
      (foots (L ++ [rd])) W1 ?_ ?_ ?_ ?_ ⟨L, h0, hst1, rfl⟩).mono ?_)
    · rintro k f W W' ⟨L', h1, h2, h3⟩ hb
      exact ⟨L', h1, st_below h2 hb, h3⟩
    · rintro k f W W' ⟨c, L', h1, h2⟩ hb
      exact ⟨c, L', h1, st_below h2 hb⟩
    · rintro i ⟨c, hc, hi⟩
      exact hst1.lt hc hi
    · -- one round
      rintro k x f W hx ⟨L', hJ, hst, rfl⟩
      have hl : W.heap[w.heap.size + 1]? = some (.loop (rc .ready none)) := by
        have := (st_front hst).2.1
        subst hrd; exact this.1
      have hy := run_yield (P := P) (args := #[enc x]) hl (by rw [hrc]; rfl)
      have hy' : (Instr.yield (w.heap.size + 1) #[enc x]).run P W = .ok (.round (w.heap.size + 1) fn (setn l p (enc x)).toArray assign body) W := by
        rw [hy, hrc]
        congr 2
        simp [setn_eq]
      refine ⟨fn, _, assign, body, hy', roundIn_of_wpIn trivial ?_⟩
      obtain ⟨ot, hot⟩ : ∃ ot : Chunk, ot = oth w0.heap.size (L' ++ [rd]) W := ⟨_, rfl⟩
      have hf := st_front hst
      have hE1 : St w0 (L' ++ [both rd ot]) W := by
        refine st_snoc hf.1 ⟨hf.2.1, ?_⟩ (fun i hi => ?_) (fun c hc i hi hi' => ?_)
        · subst hot; exact fun _ _ _ _ => rfl
        · rcases hi with hi | hi
          · exact hf.2.2.1 i hi
          · subst hot; exact hi.1
        · rcases hi' with hi' | hi'
          · exact hf.2.2.2 c hc i hi hi'
          · subst hot; exact hi'.2.2 ⟨c, by simp [hc], hi⟩
      refine wide_seq (r := some (w.heap.size + 1)) (round k x L' (w.heap.size + 1) (both rd ot) hx hJ W hE1) ?_
      rintro e a1 w1 hp
      cases e with
      | normal =>
        obtain ⟨l2, L2, rfl, hst2, hbody⟩ := hp
        have hf2 := st_front hst2
        have hl2 : w1.heap[w.heap.size + 1]? = some (.loop (rc .ready none)) := by
          have h1 := hf2.2.1.1
          subst hrd; exact h1.1
        have hd2 : w1.heap[w.heap.size]? = some (.deferred (some [])) := by
          have h1 := hf2.2.1.1
          subst hrd; exact h1.2
        refine ⟨_, run_beginRound hl2 (by rw [hrc]), ?_⟩
        obtain ⟨rb, hrb⟩ : ∃ rb : Chunk, rb = both (obj (w.heap.size + 1) (.loop (rc .busy none))) (dfr w.heap.size) := ⟨_, rfl⟩
        have hlt : ∀ {W : World} {o : Obj}, W.heap[w.heap.size + 1]? = some o → w.heap.size + 1 < W.heap.size := fun h => lt_of_some h
        have hfoot : ∀ k, rb.foot k ↔ rd.foot k := fun k => by subst hrb; subst hrd; exact Iff.rfl
        have hrdl : rd.foot (w.heap.size + 1) := by subst hrd; exact .inl rfl
        have hrdd : rd.foot w.heap.size := by subst hrd; exact .inr rfl
        have hotn : ∀ {W' : World} {o : Obj}, ot.holds W' → ot.holds (W'.putObj (w.heap.size + 1) o) := fun h => by
          refine ot.loc _ _ h (fun k hk => World.putObj_heap_other (fun e => ?_))
          subst hot; subst e
          exact hk.2.2 ⟨rd, by simp, hrdl⟩
        have hst3 : St w0 (L2 ++ [both rb ot]) (w1.putObj (w.heap.size + 1) (.loop (rc .busy none))) := by
          refine st_put hst2 (.inl hrdl) ⟨?_, hotn hf2.2.1.2⟩ (fun k hk => ?_)
          · subst hrb
            exact ⟨World.putObj_heap_same (hlt hl2), (World.putObj_heap_other (by omega)).trans hd2⟩
          · rcases hk with hk | hk
            · exact .inl ((hfoot k).1 hk)
            · exact .inr hk
        have e0 : ({ rc .ready none with state := .busy } : Loop) = rc .busy none := by rw [hrc]
        rw [e0]
        refine wide_seq (r := some (w.heap.size + 1)) (hbody (both rb ot) _ hst3) ?_
        -- what a round's end owes
        have fin : ∀ (jump : Option Code) (w3 : World) (L3 : List Chunk), St w0 (L3 ++ [both rb ot]) w3 →
            (Instr.endRound (w.heap.size + 1) jump).run P w3 = .ok (.bool jump.isNone) (w3.putObj (w.heap.size + 1) (.loop (rc (if jump.isNone then .ready else .done) jump))) ∧
            St w0 (L3 ++ [both (obj (w.heap.size + 1) (.loop (rc (if jump.isNone then .ready else .done) jump))) (dfr w.heap.size)]) (w3.putObj (w.heap.size + 1) (.loop (rc (if jump.isNone then .ready else .done) jump))) ∧
            Grew (foots (L' ++ [rd])) W (foots (L3 ++ [rd])) ∧ Kept (foots (L' ++ [rd])) W (w3.putObj (w.heap.size + 1) (.loop (rc (if jump.isNone then .ready else .done) jump))) ∧
            ∀ i, foots (L3 ++ [rd]) i → i < (w3.putObj (w.heap.size + 1) (.loop (rc (if jump.isNone then .ready else .done) jump))).heap.size := by
          intro jump w3 L3 hst4
          have hf4 := st_front hst4
          have h1 := hf4.2.1.1
          have hl4 : w3.heap[w.heap.size + 1]? = some (.loop (rc .busy none)) := by subst hrb; exact h1.1
          have hd4 : w3.heap[w.heap.size]? = some (.deferred (some [])) := by subst hrb; exact h1.2
          have hs4 : St w0 (L3 ++ [both (obj (w.heap.size + 1) (.loop (rc (if jump.isNone then .ready else .done) jump))) (dfr w.heap.size)]) (w3.putObj (w.heap.size + 1) (.loop (rc (if jump.isNone then .ready else .done) jump))) := by
            refine st_put hst4 (.inl ((hfoot _).2 hrdl)) ⟨World.putObj_heap_same (hlt hl4), (World.putObj_heap_other (by omega)).trans hd4⟩ (fun k hk => .inl ((hfoot k).2 ?_))
            subst hrd; exact hk
          refine ⟨?_, hs4, ?_, ?_, ?_⟩
          · have := run_endRound (P := P) jump hl4
            rw [this, hrc]
          · rintro i ⟨c, hc, hi⟩
            by_cases hfi : foots (L' ++ [rd]) i
            · exact .inl hfi
            · refine .inr (Nat.le_of_not_lt fun hlt' => ?_)
              rcases List.mem_append.1 hc with hc | hc
              · refine hf4.2.2.2 c hc i hi (.inr ?_)
                subst hot
                exact ⟨(hst4.2.1 c (by simp [hc])).2 i hi, hlt', hfi⟩
              · simp at hc; subst hc; exact hfi ⟨c, by simp, hi⟩
          · intro i hi hni
            have hne : i ≠ w.heap.size + 1 := fun e => hni ⟨rd, by simp, by subst e; exact hrdl⟩
            rw [World.putObj_heap_other (by omega)]
            rcases Nat.lt_or_ge i w0.heap.size with h2 | h2
            · rw [hst4.1.block i h2, hst.1.block i h2]
            · have h3 := hf4.2.1.2
              subst hot
              exact h3 i h2 hi hni
          · rintro i ⟨c, hc, hi⟩
            rcases List.mem_append.1 hc with hc | hc
            · exact hs4.lt (c := c) (by simp [hc]) hi
            · simp at hc
              refine hs4.lt (c := both (obj (w.heap.size + 1) (.loop (rc (if jump.isNone then .ready else .done) jump))) (dfr w.heap.size)) (by simp) ?_
              subst hc; subst hrd; exact hi
        rintro e a3 w3 hq
        cases e with
        | normal =>
          obtain ⟨L3, hJ3, hst4⟩ := hq
          obtain ⟨hr, hs, hgr, hk, hlt3⟩ := fin none w3 L3 hst4
          exact ⟨_, _, hr, _, hgr, hk, hlt3, .inl ⟨rfl, L3, hJ3, by subst hrd; exact hs, rfl⟩⟩
        | ret =>
          obtain ⟨L3, hJ3, hst4⟩ := hq
          obtain ⟨hr, hs, hgr, hk, hlt3⟩ := fin (some .ret) w3 L3 hst4
          exact ⟨_, _, hr, _, hgr, hk, hlt3, .inr ⟨rfl, _, L3, hJ3, hs⟩⟩
        | exit id =>
          obtain ⟨L3, hJ3, hst4⟩ := hq
          obtain ⟨hr, hs, hgr, hk, hlt3⟩ := fin (some (.exit id)) w3 L3 hst4
          exact ⟨_, _, hr, _, hgr, hk, hlt3, .inr ⟨rfl, _, L3, hJ3, hs⟩⟩
        | _ => exact (show False from hq).elim
      | _ => exact (show False from hp).elim
    · -- the function has returned
      rintro e w3 ⟨⟨v, rfl⟩, hh⟩
      have hdef : ({ frd [] l with defers := [mark w.heap.size] ++ (frd [] l).defers } : Act) = frd [mark w.heap.size] l := rfl
      rw [hdef]
      rcases hh with ⟨f', L', hJ, hst, _⟩ | ⟨k, f', _, c, L', hJ, hst⟩
      · have hf := st_front hst
        have hl3 : w3.heap[w.heap.size + 1]? = some (.loop (rc .ready none)) := by
          have h1 := hf.2.1
          subst hrd; exact h1.1
        have hd3 : w3.heap[w.heap.size]? = some (.deferred (some [])) := by
          have h1 := hf.2.1
          subst hrd; exact h1.2
        have hend := run_endLoop (P := P) hl3 (by rw [hrc]; simp)
        refine ⟨_, _, hend, ?_⟩
        have e1 : (rc .ready none).pending = none := by rw [hrc]
        rw [e1]
        refine done _ L' hJ _ (st_put hst (by subst hrd; exact .inl rfl) ?_ (fun k hk => by subst hrd; exact .inr hk))
        exact (World.putObj_heap_other (by omega)).trans hd3
      · have hf := st_front hst
        have hl3 : w3.heap[w.heap.size + 1]? = some (.loop (rc .done (some c))) := hf.2.1.1
        have hd3 : w3.heap[w.heap.size]? = some (.deferred (some [])) := hf.2.1.2
        have hend := run_endLoop (P := P) hl3 (by rw [hrc]; simp)
        refine ⟨_, _, hend, ?_⟩
        have e1 : (rc .done (some c)).pending = some c := by rw [hrc]
        rw [e1]
        refine stop _ c L' hJ _ (st_put hst (.inl rfl) ?_ (fun k hk => .inr hk))
        exact (World.putObj_heap_other (by omega)).trans hd3
end Go.R

/-
  Functions that hold a range over a function: entry and ends; lists of operations that call yield.
  No conditions: plain lemmas over any program.
-/
namespace Go.R
open Go.RowKit Go.K
section
variable {P : Program} {w0 : World} {L : List Chunk} {l : List Value} {R : Ending → World → Prop} {fn : Func} {v : Value} {b : Nat}
theorem enter {f : FuncId} {c : Code} {args : List Value} {m : Nat} {w : World} (hf : P.funcs[f]? = some fn) (hb : fn.body = some c) (hn : fn.ntmps - args.length = m)
    (k : Hold w [] (c.wpIn (fen none) 0 P (bodyPostM (fen none) 0 P fn R) (frd [] (args ++ List.replicate m undef)))) : Calls P f args.toArray w R := by
  refine fen_calls (n := 0) (callsIn_of_wp_marks hf hb trivial ?_)
  have h1 := k w (St.start w)
  subst hn
  have e : ({ tmps := args.toArray ++ Array.replicate (fn.ntmps - args.toArray.size) undef, defers := [] } : Act) = frd [] (args ++ List.replicate (fn.ntmps - args.length) undef) := by
    simp [frd]
  rw [e]; exact h1
theorem end_ret (hr : ∀ w, St w0 L w → (results fn l.toArray).run P w = .ok v w) (k : Hold w0 L (R (.returned v))) : Hold w0 L (bodyPostM (fen none) 0 P fn R .ret (frd [] l)) := fun w hw => ⟨v, hr w hw, k w hw⟩
theorem end_normal (hr : ∀ w, St w0 L w → (results fn l.toArray).run P w = .ok v w) (k : Hold w0 L (R (.returned v))) : Hold w0 L (bodyPostM (fen none) 0 P fn R .normal (frd [] l)) := fun w hw => ⟨v, hr w hw, k w hw⟩
theorem leaves (hr : ∀ w, St w0 L w → (results fn l.toArray).run P w = .ok v w) (k : Hold w0 L (R (.returned v))) (w : World) (hw : St w0 (L ++ [dfr b]) w) : LeavesInM (fen none) 0 P fn l.toArray R [mark b] .returning w := by
  have h1 : w.heap[b]? = some (.deferred (some [])) := (st_front hw).2.1
  have h2 := st_front (st_put (E' := nul) (o := .deferred none) hw (b := b) rfl trivial (fun _ h => h.elim))
  exact ⟨by simp, .inl ⟨b, _, rfl, run_takeDeferred h1, v, hr _ h2.1, k _ h2.1⟩⟩
theorem end_ret1 {L' : List Chunk} (hL : L' = L'.dropLast ++ [dfr b]) (hr : ∀ w, St w0 L'.dropLast w → (results fn l.toArray).run P w = .ok v w) (k : Hold w0 L'.dropLast (R (.returned v))) : Hold w0 L' (bodyPostM (fen none) 0 P fn R .ret (frd [mark b] l)) := by
  rw [hL]; exact leaves hr k
theorem end_normal1 {L' : List Chunk} (hL : L' = L'.dropLast ++ [dfr b]) (hr : ∀ w, St w0 L'.dropLast w → (results fn l.toArray).run P w = .ok v w) (k : Hold w0 L'.dropLast (R (.returned v))) : Hold w0 L' (bodyPostM (fen none) 0 P fn R .normal (frd [mark b] l)) := by
  rw [hL]; exact leaves hr k
theorem body' {P : Program} {w0 : World} {JL : Nat → List Chunk → Prop} {JX : Code → List Chunk → Prop} {k lr : Nat} {c : Code} {E1 : Chunk} {l2 : List Value} {L : List Chunk} (hL : L = L.dropLast ++ [E1])
    (h : ∀ E, Hold w0 (L.dropLast ++ [E]) (c.wpIn (fen (some lr)) 0 P (RP w0 JL JX k E) (frd [] l2))) : Hold w0 L (Body P w0 JL JX k lr c E1 (frd [] l2)) := by
  rw [hL]; exact body h
/-- What an iterator keeps of its own between two steps. -/
def Keep (f : Nat → Prop) (w : World) (f' : Nat → Prop) (w' : World) : Prop := ∀ i, i < w.heap.size → ¬ f i → ¬ f' i ∧ w'.heap[i]? = w.heap[i]?
theorem Keep.of {f f' : Nat → Prop} {w w' : World} (h1 : Grew f w f') (h2 : Kept f w w') : Keep f w f' w' := fun i hi hf => ⟨fun h => by
  rcases h1 i h with h | h
  · exact hf h
  · omega, h2 i hi hf⟩
theorem lt_of_same {w w' : World} {i : Nat} (hi : i < w.heap.size) (h : w'.heap[i]? = w.heap[i]?) : i < w'.heap.size := by
  rw [Array.getElem?_eq_getElem hi] at h; exact lt_of_some h
theorem Keep.trans {f f' f'' : Nat → Prop} {w w' w'' : World} (h1 : Keep f w f' w') (h2 : Keep f' w' f'' w'') : Keep f w f'' w'' := fun i hi hf => by
  obtain ⟨a1, a2⟩ := h1 i hi hf
  obtain ⟨b1, b2⟩ := h2 i (lt_of_same hi a2) a1
  exact ⟨b1, b2.trans a2⟩
theorem Keep.below {f : Nat → Prop} {w w' : World} (h : Below w.heap.size w w') : Keep f w f w' := fun i hi hf => ⟨hf, h.block i hi⟩
/-- A pointer of the iterator's own, readable and nobody else's. -/
def Own1 (f : Nat → Prop) (w : World) (p : Addr) (us : List Value) : Prop := p.block < w.heap.size ∧ ¬ f p.block ∧ ∀ j u, us[j]? = some u → w.cell? (p.add j) = some u
theorem Own1.ptr {f : Nat → Prop} {w : World} {p : Addr} {us : List Value} (h : Own1 f w p us) : PtrL w [] p us := PtrL.old h.1 h.2.2
theorem Own1.keep {f f' : Nat → Prop} {w w' : World} {p : Addr} {us : List Value} (h : Own1 f w p us) (hk : Keep f w f' w') : Own1 f' w' p us := by
  obtain ⟨a1, a2⟩ := hk _ h.1 h.2.1
  refine ⟨lt_of_same h.1 a2, a1, fun j u hu => ?_⟩
  rw [← h.2.2 j u hu]
  exact World.cell?_of_block (by rw [addr_block]; exact a2)
theorem Own1.blk {f : Nat → Prop} {w0 w : World} {L : List Chunk} {b : Nat} {t : TypeId} {cs : List Value} (hw : St w0 L w) (hm : blk b t cs ∈ L) (hf : ∀ i, f i → i < w0.heap.size) : Own1 f w ⟨b, 0, none⟩ cs := by
  have h1 := hw.2.1 _ hm
  refine ⟨hw.lt hm rfl, fun h => ?_, fun j u hu => ?_⟩
  · have := h1.2 b rfl
    have := hf b h
    omega
  · rw [add_lit, Nat.zero_add]; exact cell_now hw hm hu
end
section
variable {r : Option Nat} {n : Nat} {P : Program} {w0 : World} {L : List Chunk} {D : List Deferred} {ops : Array Oper} {Q : Exit → Act → World → Prop} {rest : List Oper} {l : List Value} {o : Oper} {v : Value} {id : Nat}
theorem lregion {lo : List Oper} (k : Hold w0 L (wpListIn (fen r) n P lo.toArray Q lo (frd D l))) : Hold w0 L ((Code.region id lo.toArray false).wpIn (fen r) n P Q (frd D l)) := fun w hw => wpIn_region_lit (k w hw)
theorem lseq_nil (k : Hold w0 L (Q .normal (frd D l))) : Hold w0 L (wpListIn (fen r) n P ops Q [] (frd D l)) := k
theorem lseq_skip (hg : wantL ops.toList l o.guard = false) (k : Hold w0 L (wpListIn (fen r) n P ops Q rest (frd D (setd l o.dst undef)))) : Hold w0 L (wpListIn (fen r) n P ops Q (o :: rest) (frd D l)) := by
  intro w hw
  unfold wpListIn
  have hy : Region.wanted o (yielded ops (frd D l).tmps) = wantL ops.toList l o.guard := wanted_eq ops l o
  rw [if_neg (by rw [hy, hg]; simp), frd_put]
  exact ⟨fun _ _ => trivial, k w hw⟩
theorem lseq_op {Rr : World → Value → World → Prop} (hd : noDef o = true) (hg : wantL ops.toList l o.guard = true) (h : ∀ w, St w0 L w → OpT P o l w (Rr w))
    (k : ∀ w, St w0 L w → ∀ v w', Rr w v w' → wpListIn (fen r) n P ops Q rest (frd D (setd l o.dst v)) w') : Hold w0 L (wpListIn (fen r) n P ops Q (o :: rest) (frd D l)) := by
  intro w hw
  unfold wpListIn
  have hy : Region.wanted o (yielded ops (frd D l).tmps) = wantL ops.toList l o.guard := wanted_eq ops l o
  rw [if_pos (by rw [hy]; exact hg)]
  refine op_in (D := D) (Q := fun _ _ _ => True) (K := fun a w' => ∃ v, Rr w v w' ∧ a = fr (setd l o.dst v)) hd ?_ (h w hw _ _ (fun v w' hR => ⟨v, hR, rfl⟩))
  rintro a w' ⟨v, hR, rfl⟩
  exact k w hw v w' hR
theorem lseq_pure (h : Pure P o l v) (hd : noDef o = true) (hg : wantL ops.toList l o.guard = true) (k : Hold w0 L (wpListIn (fen r) n P ops Q rest (frd D (setd l o.dst v)))) : Hold w0 L (wpListIn (fen r) n P ops Q (o :: rest) (frd D l)) :=
  lseq_op (Rr := fun w v' w' => v' = v ∧ w' = w) hd hg (fun w _ => OpT.of_run (h w) ⟨rfl, rfl⟩) (fun w hw _ _ ⟨hv, hw'⟩ => by subst hv; subst hw'; exact k _ hw)
theorem lseq_sil (h : Sil P w0 L o l v) (hd : noDef o = true) (hg : wantL ops.toList l o.guard = true) (k : Hold w0 L (wpListIn (fen r) n P ops Q rest (frd D (setd l o.dst v)))) : Hold w0 L (wpListIn (fen r) n P ops Q (o :: rest) (frd D l)) :=
  lseq_op (Rr := fun w v' w' => v' = v ∧ w' = w) hd hg (fun w hw => OpT.of_run (h L w (fun _ h => h) hw) ⟨rfl, rfl⟩) (fun w hw _ _ ⟨hv, hw'⟩ => by subst hv; subst hw'; exact k _ hw)
theorem lsplit {b : Bool} (t : Nat) (hb : nth l t = .bool b) (kt : b = true → Hold w0 L (wpListIn (fen r) n P ops Q rest (frd D (setn l t (.bool true))))) (kf : b = false → Hold w0 L (wpListIn (fen r) n P ops Q rest (frd D (setn l t (.bool false))))) : Hold w0 L (wpListIn (fen r) n P ops Q rest (frd D l)) := by
  cases b with
  | true => have h := kt rfl; rw [← hb, setn_self] at h; exact h
  | false => have h := kf rfl; rw [← hb, setn_self] at h; exact h
/-- A call after which only what the contract tells is known. -/
theorem lseq_wild {d : Option Tmp} {ty : TypeId} {ps : String} {af : Array Edge} {g : Option (Nat × Bool)} {x : Operand} {args : List Operand} {f : FuncId} {first cap : List Value} {ts : Array TypeId} {post : World → Bool → World → Prop} (hx : ev l x = .func (.func f) first.toArray cap.toArray) (hf : callable P f = true)
    (hg : wantL ops.toList l g = true) (hc : ∀ w, St w0 L w → Calls P f (first ++ args.map (ev l) ++ cap).toArray w (fun e w' => ∃ b, e = .returned (.bool b) ∧ post w b w'))
    (k : ∀ w, St w0 L w → ∀ b w', post w b w' → Hold w' [] (wpListIn (fen r) n P ops Q rest (frd D (setd l d (.bool b))))) : Hold w0 L (wpListIn (fen r) n P ops Q (⟨d, .call { callee := .value x, args := args.toArray, argTypes := ts }, ty, ps, af, g⟩ :: rest) (frd D l)) := by
  refine lseq_op (Rr := fun w v w' => ∃ b, v = .bool b ∧ post w b w') rfl hg (fun w hw => OpT.of_enter (w' := w) (f := f) (args := (first ++ args.map (ev l) ++ cap).toArray) ?_ ((hc w hw).mono ?_)) ?_
  · have e : first.toArray ++ args.toArray.map (ev l) ++ cap.toArray = (first ++ args.map (ev l) ++ cap).toArray := by
      apply Array.toList_inj.1; simp
    simp only [execOp, resolve, hx, Deferred.ofValue, Sem.run_bind, Sem.run_pure, Result.andThen_ok, invoke, e, run_call hf]
  · rintro e w' ⟨b, rfl, h⟩
    exact ⟨_, rfl, b, rfl, h⟩
  · rintro w hw v w' ⟨b, rfl, h⟩
    exact k w hw b w' h w' (St.start w')
theorem round_fen {m m' : Nat} {r' : Option Nat} {lr : Nat} {f : FuncId} {tmps : Array Value} {assign body : Code} {w : World} {R : Ending → World → Prop} (h : RoundIn (fen r) m P lr f tmps assign body w R) : RoundIn (fen r') m' P lr f tmps assign body w R :=
  ⟨trivial, fun c cs _ => h.2 c cs (fun _ h => by cases h)⟩
/-- A call of yield. -/
theorem lseq_yield {d : Option Tmp} {ty : TypeId} {ps : String} {af : Array Edge} {g : Option (Nat × Bool)} {x y : Operand} {lr : Nat} {u : Value} {ts : Array TypeId} {post : World → Bool → World → Prop} (hx : ev l x = .func (.yield lr) #[] #[]) (hy : ev l y = u)
    (hg : wantL ops.toList l g = true) (hc : ∀ w, St w0 L w → YieldAt (fen none) 0 P lr #[u] w (fun e w' => ∃ b, e = .returned (.bool b) ∧ post w b w'))
    (k : ∀ w, St w0 L w → ∀ b w', post w b w' → Hold w' [] (wpListIn (fen r) n P ops Q rest (frd D (setd l d (.bool b))))) : Hold w0 L (wpListIn (fen r) n P ops Q (⟨d, .call { callee := .value x, args := #[y], argTypes := ts }, ty, ps, af, g⟩ :: rest) (frd D l)) := by
  intro w hw
  unfold wpListIn
  have hyl : Region.wanted ⟨d, .call { callee := .value x, args := #[y], argTypes := ts }, ty, ps, af, g⟩ (yielded ops (frd D l).tmps) = wantL ops.toList l g := wanted_eq ops l _
  rw [if_pos (by rw [hyl]; exact hg)]
  refine ⟨fun _ _ => trivial, ?_⟩
  have hs : (⟨d, .call { callee := .value x, args := #[y], argTypes := ts }, ty, ps, af, g⟩ : Oper).semAt (fen r).round (frd D l).eval = execOp (ev l) ⟨d, .call { callee := .value x, args := #[y], argTypes := ts }, ty, ps, af, g⟩ := by
    rw [frd_eval]
    cases r with
    | none => rfl
    | some l' => exact Oper.semAt_some l' (ev l) _ (fun c hc => by cases hc)
  obtain ⟨fn, tmps, assign, body, hrun, hround⟩ := hc w hw
  rw [hs]
  have hexec : (execOp (ev l) ⟨d, .call { callee := .value x, args := #[y], argTypes := ts }, ty, ps, af, g⟩).run P w = .ok (.round lr fn tmps assign body) w := by
    simp [execOp, resolve, hx, hy, Deferred.ofValue, Sem.run_bind, Sem.run_pure, Result.andThen_ok, invoke, hrun]
  rw [hexec]
  refine ⟨fun h => (by cases h), (round_fen hround).mono ?_⟩
  rintro e w' ⟨b, rfl, h⟩
  show wpListIn (fen r) n P ops Q rest ((frd D l).put d (.bool b)) w'
  rw [frd_put]
  exact k w hw b w' h w' (St.start w')
end
section
variable {w0 : World} {L : List Chunk} {Q : Exit → Act → World → Prop} {a : Act} {id : Nat}
theorem ng_ret (k : Hold w0 L (Q .ret a)) : Hold w0 L (Exit.noGoto Q .ret a) := k
theorem ng_normal (k : Hold w0 L (Q .normal a)) : Hold w0 L (Exit.noGoto Q .normal a) := k
theorem ng_exit (k : Hold w0 L (Q (.exit id) a)) : Hold w0 L (Exit.noGoto Q (.exit id) a) := k
end
/-- One call of yield, as the iterator sees it. -/
def Step {α : Type} (XS : List α) (J Jx : Nat → (Nat → Prop) → World → Prop) (m : Nat) (k : Nat) (f : Nat → Prop) (w : World) (b : Bool) (w' : World) : Prop :=
  (b = true ∧ ∃ f', J (k + m) f' w' ∧ Keep f w f' w' ∧ ∀ i, f' i → i < w'.heap.size) ∨ (b = false ∧ ∃ k' f', k' ≤ XS.length ∧ Jx k' f' w')
theorem yield_step {α : Type} {P : Program} {lr : Nat} {enc : α → Value} {XS : List α} {J Jx : Nat → (Nat → Prop) → World → Prop} (hR : RoundOK P lr enc XS J Jx) {k : Nat} {x : α} {f : Nat → Prop} {w : World} (hx : XS[k]? = some x) (hJ : J k f w) :
    YieldAt (fen none) 0 P lr #[enc x] w (fun e w' => ∃ b, e = .returned (.bool b) ∧ Step XS J Jx 1 k f w b w') := by
  obtain ⟨fn, tmps, assign, body, h1, h2⟩ := hR k x f w hx hJ
  refine ⟨fn, tmps, assign, body, h1, h2.mono ?_⟩
  rintro e w' ⟨f', hg, hk, hl, h⟩
  rcases h with ⟨he, h⟩ | ⟨he, h⟩
  · exact ⟨true, he, .inl ⟨rfl, f', h, Keep.of hg hk, hl⟩⟩
  · exact ⟨false, he, .inr ⟨rfl, k + 1, f', (List.getElem?_eq_some_iff.1 hx).1, h⟩⟩
theorem Step.fail {α : Type} {XS : List α} {J Jx : Nat → (Nat → Prop) → World → Prop} {m m' k k' : Nat} {f f' : Nat → Prop} {w w1 w' : World} (h : Step XS J Jx m k f w false w') : Step XS J Jx m' k' f' w1 false w' := by
  rcases h with ⟨h, _⟩ | h
  · cases h
  · exact .inr h
end Go.R
namespace Go.K
open Go.RowKit
theorem res_cc {P : Program} {l : List Value} {fn : Func} {p q : Tmp} {ty ty' : TypeId} {b b' : Nat} {v v' : Value} (h : fn.results = #[.cell p ty, .cell q ty']) (hp : nth l p = .pointer (some ⟨b, 0, none⟩)) (hq : nth l q = .pointer (some ⟨b', 0, none⟩)) {w : World} (hv : (loadVar ty ⟨b, 0, none⟩).run P w = .ok v w) (hv' : (loadVar ty' ⟨b', 0, none⟩).run P w = .ok v' w) :
    (results fn l.toArray).run P w = .ok (.tuple #[v, v']) w := by
  have hp' : l.toArray[p]?.getD undef = .pointer (some ⟨b, 0, none⟩) := by rw [← hp, nth_eq]; simp
  have hq' : l.toArray[q]?.getD undef = .pointer (some ⟨b', 0, none⟩) := by rw [← hq, nth_eq]; simp
  simp at hp' hq'
  simp [results, h, hp', hq', asAddr, hv, hv']
end Go.K
