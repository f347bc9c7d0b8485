/-
  Ranges over functions: the rules of code where an activation may be a loop's round, or bear a loop's mark.
  No conditions: plain lemmas over any program.
-/
import Derived.Test.YtafkbioeoklldaaKi
import Derived.RangeFuncLeaves
import Derived.RangeFuncSeq
import Derived.OrdersIn
import Derived.Sort.LoopGhostIn
import Derived.TacticsIn
set_option linter.unusedSimpArgs false
set_option linter.unusedVariables false
namespace Go.R
open Go.RowKit Go.K
/-- No fence, in a round of loop r or in none. -/
def fen (r : Option Nat) : Fence := { Fence.wide with round := r }
/-- A frame, with the calls that it has deferred. -/
def frd (D : List Deferred) (l : List Value) : Act := { tmps := l.toArray, defers := D }
theorem frd_nil (l : List Value) : frd [] l = fr l := rfl
theorem frd_eval (D : List Deferred) (l : List Value) : (frd D l).eval = ev l := fr_eval l
theorem frd_put (D : List Deferred) (l : List Value) (d : Option Tmp) (v : Value) : (frd D l).put d v = frd D (setd l d v) := by
  have h := fr_put l d v
  cases d with
  | none => rfl
  | some d =>
    simp only [Act.put, fr, frd, setd] at h ⊢
    injection h with h1 _
    rw [h1]
theorem calls_fen {r : Option Nat} {n : Nat} {P : Program} {f : FuncId} {args : Array Value} {w : World} {R : Ending → World → Prop} (h : Calls P f args w R) : CallsIn (fen r) n P f args w R :=
  (callsIn_wide (n := n)).2 h
theorem fen_calls {n : Nat} {P : Program} {f : FuncId} {args : Array Value} {w : World} {R : Ending → World → Prop} (h : CallsIn (fen none) n P f args w R) : Calls P f args w R :=
  (callsIn_wide (n := n)).1 h
def noDef (o : Oper) : Bool := match o.op with | .defer _ => false | _ => true
/-- Only a normal end. -/
def onlyN (D : List Deferred) (Q : Exit → Act → World → Prop) : Exit → Act → World → Prop
  | .normal, a, w => ∃ l, a = fr l ∧ Q .normal (frd D l) w
  | _, _, _ => False
theorem onlyN_lets {D : List Deferred} {Q : Exit → Act → World → Prop} : ¬ LetsOut (onlyN D Q) := fun ⟨_, _, h⟩ => h
/-- An activation, with further deferred calls below its own. -/
def app (D : List Deferred) (a : Act) : Act := { a with defers := a.defers ++ D }
theorem app_fr (D : List Deferred) (l : List Value) : app D (fr l) = frd D l := rfl
theorem app_eval (D : List Deferred) (a : Act) : (app D a).eval = a.eval := by funext x; cases x <;> rfl
theorem app_put (D : List Deferred) (a : Act) (d : Option Tmp) (v : Value) : (app D a).put d v = app D (a.put d v) := by cases d <;> rfl
theorem rows_fen {r : Option Nat} {n : Nat} {P : Program} {row : String} {args : Array Value} {w : World} {R : Value → World → Prop} (h : Rows P row args w R) : RowsIn (fen r) n P row args w R :=
  fun c cs _ => let ⟨v, w', h1, s⟩ := h c cs; ⟨v, w', h1, stepsIn_wide.2 s⟩
/-- One operation, taken over. -/
theorem op_in {r : Option Nat} {n : Nat} {P : Program} {o : Oper} {a : Act} {w : World} {D : List Deferred} {K : Act → World → Prop} {Q Q' : Exit → Act → World → Prop} {K' : Act → World → Prop} (hd : noDef o = true) (hK : ∀ a w, K a w → K' (app D a) w)
    (h : o.wp P a w K (onlyN D Q)) : o.wpIn (fen r) n P (app D a) w K' Q' := by
  refine ⟨fun _ _ => trivial, ?_⟩
  have hs : o.semAt (fen r).round (app D a).eval = execOp a.eval o := by
    rw [app_eval]
    cases r with
    | none => rfl
    | some l' => exact Oper.semAt_some l' a.eval o (fun c hc => by unfold noDef at hd; rw [hc] at hd; cases hd)
  rw [hs]
  unfold Oper.wp at h
  cases hr : (execOp a.eval o).run P w with
  | ok x w' =>
    rw [hr] at h
    cases x with
    | value v => rw [Oper.upon_value] at h; show K' ((app D a).put o.dst v) w'; rw [app_put]; exact hK _ _ h
    | skip => rw [Oper.upon_skip] at h; show K' ((app D a).put o.dst undef) w'; rw [app_put]; exact hK _ _ h
    | defer d =>
      have h1 : K ({ a with defers := d :: a.defers }.put o.dst undef) w' := h
      show K' ({ app D a with defers := d :: (app D a).defers }.put o.dst undef) w'
      have h2 := hK _ _ h1
      rw [← app_put] at h2
      exact h2
    | enter f args =>
      rw [Oper.upon_enter] at h
      refine ⟨fun h1 => (by cases h1), calls_fen (h.mono ?_)⟩
      intro e w'' he
      cases e with
      | returned v =>
        have he' : K (a.put o.dst v) w'' := he
        show K' ((app D a).put o.dst v) w''
        rw [app_put]; exact hK _ _ he'
      | panicked c => exact (show False from he).elim
      | outgrown => exact (onlyN_lets he).elim
    | row row args =>
      have h1 : Rows P row args w' fun v w'' => K (a.put o.dst v) w'' := h
      refine ⟨fun h1 => (by cases h1), (rows_fen h1).mono ?_⟩
      intro v w'' he
      show K' ((app D a).put o.dst v) w''
      rw [app_put]; exact hK _ _ he
    | _ => exact (show False from h).elim
  | halt x w' =>
    rw [hr] at h
    cases x <;> exact (show False from h).elim
theorem list_in {r : Option Nat} {n : Nat} {P : Program} {ops : Array Oper} {D : List Deferred} {Q : Exit → Act → World → Prop} : ∀ (lo : List Oper) (a : Act) (w : World), lo.all noDef = true → wpList P ops (onlyN D Q) lo a w → wpListIn (fen r) n P ops Q lo (app D a) w
  | [], a, w, _, h => by obtain ⟨l, rfl, hq⟩ := h; exact hq
  | o :: lo, a, w, hd, h => by
    simp only [List.all_cons, Bool.and_eq_true] at hd
    unfold wpList at h
    unfold wpListIn
    have hy : yielded ops (app D a).tmps = yielded ops a.tmps := rfl
    rw [hy]
    split
    · rename_i hw
      rw [if_pos hw] at h
      rcases h with h | ⟨_, h⟩
      · exact op_in hd.1 (fun a w => list_in lo a w hd.2) h
      · exact (onlyN_lets h).elim
    · rename_i hw
      rw [if_neg hw] at h
      refine ⟨fun _ _ => trivial, ?_⟩
      rw [app_put]
      exact list_in lo _ w hd.2 h
theorem any_in {r : Option Nat} {n : Nat} {P : Program} {ops : Array Oper} {D : List Deferred} {Q : Exit → Act → World → Prop} (hd : ops.toList.all noDef = true) : ∀ (fuel : Nat) (listed : Array Bool) (a : Act) (w : World), wpAny P .any ops (onlyN D Q) fuel listed a w → wpAnyIn (fen r) n P .any ops Q fuel listed (app D a) w
  | 0, listed, a, w, h => ⟨h.1, by obtain ⟨l, rfl, hq⟩ := h.2; exact hq⟩
  | fuel + 1, listed, a, w, h => by
    refine ⟨fun h0 => by obtain ⟨l, rfl, hq⟩ := h.1 h0; exact hq, fun i hi => ?_⟩
    have h1 := h.2 i hi
    unfold wpOp at h1
    unfold wpOpIn
    cases ho : ops[i]? with
    | none => rw [ho] at h1; exact any_in hd fuel _ _ _ h1
    | some o =>
      rw [ho] at h1
      have hdo : noDef o = true := List.all_eq_true.1 hd o (by
        have := Array.mem_of_getElem? ho
        simpa using this)
      have hy : yielded ops (app D a).tmps = yielded ops a.tmps := rfl
      simp only [hy] at h1 ⊢
      split
      · rename_i hw
        simp only [hw, if_true] at h1
        rcases h1 with h1 | ⟨_, h1⟩
        · exact op_in hdo (fun a w => any_in hd fuel _ a w) h1
        · exact (onlyN_lets h1).elim
      · rename_i hw
        rw [if_neg hw] at h1
        refine ⟨fun _ _ => trivial, ?_⟩
        rw [app_put]
        exact any_in hd fuel _ _ w h1
section
variable {r : Option Nat} {n : Nat} {P : Program} {w0 : World} {L : List Chunk} {D : List Deferred} {Q : Exit → Act → World → Prop} {l : List Value} {x y : Code} {id m : Nat} {c : Operand} {b : Bool}
theorem seq (k : Hold w0 L (x.wpIn (fen r) n P (Exit.then (y.wpIn (fen r) n P Q) Q) (frd D l))) : Hold w0 L ((Code.seq x y).wpIn (fen r) n P Q (frd D l)) := fun w hw => wpIn_seq (k w hw)
theorem skip (k : Hold w0 L (Q .normal (frd D l))) : Hold w0 L (Code.skip.wpIn (fen r) n P Q (frd D l)) := fun w hw => wpIn_skip (k w hw)
theorem label (k : Hold w0 L (Q .normal (frd D l))) : Hold w0 L ((Code.label m).wpIn (fen r) n P Q (frd D l)) := fun w hw => wpIn_label (k w hw)
theorem exit (k : Hold w0 L (Q (.exit id) (frd D l))) : Hold w0 L ((Code.exit id).wpIn (fen r) n P Q (frd D l)) := fun w hw => wpIn_exit (k w hw)
theorem ret (k : Hold w0 L (Q .ret (frd D l))) : Hold w0 L (Code.ret.wpIn (fen r) n P Q (frd D l)) := fun w hw => wpIn_ret (k w hw)
theorem block (k : Hold w0 L (x.wpIn (fen r) n P (Exit.inBlock id Q) (frd D l))) : Hold w0 L ((Code.block id x).wpIn (fen r) n P Q (frd D l)) := fun w hw => wpIn_block (k w hw)
theorem scope (k : Hold w0 L (x.wpIn (fen none) n P (Exit.noGoto Q) (frd D l))) : Hold w0 L ((Code.scope x).wpIn (fen none) n P Q (frd D l)) := fun w hw => (wpIn_wide (n := n)).2 (wp_scope_straight ((wpIn_wide (n := n)).1 (k w hw)))
theorem cond (hc : ev l c = .bool b) (kt : b = true → Hold w0 L (x.wpIn (fen r) n P Q (frd D l))) (kf : b = false → Hold w0 L (y.wpIn (fen r) n P Q (frd D l))) : Hold w0 L ((Code.cond c x y).wpIn (fen r) n P Q (frd D l)) :=
  fun w hw => wpIn_cond_split (t := b) (by rw [frd_eval]; exact hc) (fun h => kt h w hw) (fun h => kf h w hw)
theorem cond_true (hc : ev l c = .bool true) (kt : Hold w0 L (x.wpIn (fen r) n P Q (frd D l))) : Hold w0 L ((Code.cond c x y).wpIn (fen r) n P Q (frd D l)) := cond hc (fun _ => kt) (fun h => by cases h)
theorem cond_false (hc : ev l c = .bool false) (kf : Hold w0 L (y.wpIn (fen r) n P Q (frd D l))) : Hold w0 L ((Code.cond c x y).wpIn (fen r) n P Q (frd D l)) := cond hc (fun h => by cases h) (fun _ => kf)
theorem region_lit {lo : List Oper} (hd : lo.all noDef = true) (k : Hold w0 L (wpList P lo.toArray (onlyN D Q) lo (fr l))) : Hold w0 L ((Code.region id lo.toArray false).wpIn (fen r) n P Q (frd D l)) :=
  fun w hw => wpIn_region_lit (by have := list_in (r := r) (n := n) lo (fr l) w hd (k w hw); exact this)
theorem out (k : Hold w0 L (Q .normal (frd D l))) : Hold w0 L (onlyN D Q .normal (fr l)) := fun w hw => ⟨l, rfl, k w hw⟩
theorem draw_A {lo : List Oper} (A : List Chunk) (bl : List Nat) (hm : P.follows .mixedOrders = true) (hd : lo.all noDef = true) (k : DHold P w0 lo.toArray (onlyN D Q) A bl lo.length (Array.replicate lo.length false) l L) :
    Hold w0 L ((Code.region id lo.toArray true).wpIn (fen r) n P Q (frd D l)) := fun w hw => by
  have h1 := wpAny_noPanic _ _ _ _ (wpAny_of_U _ _ _ _ (k _ hw.drew))
  have h2 := any_in (r := r) (n := n) (by simpa using hd) _ _ _ _ h1
  refine wpIn_region_any hm ?_
  rw [List.size_toArray]
  exact h2
theorem draw_L {lo : List Oper} (bl : List Nat) (hm : P.follows .mixedOrders = true) (hd : lo.all noDef = true) (k : DHold P w0 lo.toArray (onlyN D Q) L bl lo.length (Array.replicate lo.length false) l L) : Hold w0 L ((Code.region id lo.toArray true).wpIn (fen r) n P Q (frd D l)) := draw_A L bl hm hd k
theorem draw_drop {lo : List Oper} (m : Nat) (bl : List Nat) (hm : P.follows .mixedOrders = true) (hd : lo.all noDef = true) (k : DHold P w0 lo.toArray (onlyN D Q) (L.drop m) bl lo.length (Array.replicate lo.length false) l L) : Hold w0 L ((Code.region id lo.toArray true).wpIn (fen r) n P Q (frd D l)) := draw_A (L.drop m) bl hm hd k
/-! The ways through. -/
theorem exit_here {a : Act} (k : Hold w0 L (Q .normal a)) : Hold w0 L (Exit.inBlock id Q (.exit id) a) := fun w hw => by
  unfold Exit.inBlock
  simp only [if_true]
  exact k w hw
theorem exit_out {a : Act} {id' : Nat} (h : (id' == id) = false) (k : Hold w0 L (Q (.exit id') a)) : Hold w0 L (Exit.inBlock id Q (.exit id') a) := fun w hw => by
  have : id' ≠ id := by simpa using h
  unfold Exit.inBlock
  simp only [this, if_false]
  exact k w hw
theorem exit_then {a : Act} {K : Act → World → Prop} (k : Hold w0 L (Q (.exit id) a)) : Hold w0 L (Exit.then K Q (.exit id) a) := k
theorem ret_block {a : Act} (k : Hold w0 L (Q .ret a)) : Hold w0 L (Exit.inBlock id Q .ret a) := k
theorem ret_then {a : Act} {K : Act → World → Prop} (k : Hold w0 L (Q .ret a)) : Hold w0 L (Exit.then K Q .ret a) := k
theorem norm_block {a : Act} (k : Hold w0 L (Q .normal a)) : Hold w0 L (Exit.inBlock id Q .normal a) := k
theorem norm_then {a : Act} {K : Act → World → Prop} (k : Hold w0 L (K a)) : Hold w0 L (Exit.then K Q .normal a) := k
def RoundEnd (D : List Deferred) (w0 : World) (J : List Value → List Chunk → Prop) (μ : List Value → Nat) (wi wr : List Nat) (l0 vi : List Value) : Act → World → Prop :=
  fun a w => ∃ vi' vr' L'', a = frd D (setF vr' (setM l0 wi vi') wr) ∧ J vi' L'' ∧ μ vi' < μ vi ∧ St w0 L'' w
theorem loopW (wi wr : List Nat) (J : List Value → List Chunk → Prop) (μ : List Value → Nat) (h0 : J (wi.map (nth l)) L)
    (round : ∀ vi vr L', J vi L' → Hold w0 L' (x.wpIn (fen r) n P (Exit.then (RoundEnd D w0 J μ wi wr l vi) Q) (frd D (setF vr (setM l wi vi) wr)))) :
    Hold w0 L ((Code.loop x).wpIn (fen r) n P Q (frd D l)) := by
  intro w hw
  refine wpIn_loop_ghost (fun n a w => ∃ vi vr L', a = frd D (setF vr (setM l wi vi) wr) ∧ J vi L' ∧ μ vi = n ∧ St w0 L' w) _ ⟨_, nth l, L, by rw [setM_self, setF_self], h0, rfl, hw⟩ ?_
  rintro n a w ⟨vi, vr, L1, rfl, hJ, rfl, hst⟩
  refine wpIn_mono (round vi vr L1 hJ w hst) (fun e a' w' hq => ?_)
  cases e with
  | normal =>
    obtain ⟨vi', vr', L2, rfl, hJ', hlt, hst'⟩ := hq
    exact ⟨_, hlt, vi', vr', L2, rfl, hJ', rfl, hst'⟩
  | _ => exact hq
theorem round_endW {J : List Value → List Chunk → Prop} {μ : List Value → Nat} {wi wr : List Nat} {vi l0 : List Value} {L'' : List Chunk} (vi' : List Value) (hJ : J vi' L'') (hμ : μ vi' < μ vi) (hs : List.Sublist L'' L) (he : l = setF (nth l) (setM l0 wi vi') wr) :
    Hold w0 L (Exit.then (RoundEnd D w0 J μ wi wr l0 vi) Q .normal (frd D l)) := fun w hw =>
  ⟨vi', nth l, L'', by rw [← he], hJ, hμ, hw.sub hs⟩
end
end Go.R
