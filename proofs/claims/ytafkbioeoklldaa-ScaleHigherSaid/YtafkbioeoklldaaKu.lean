/-
  Functions that hold a range over a function: entry and ends; lists of operations that call yield.
  No conditions: plain lemmas over any program.
-/
import Derived.Test.YtafkbioeoklldaaKt
set_option linter.unusedSimpArgs false
set_option linter.unusedVariables false
namespace Go.R
open Go.RowKit Go.K
section
variable {P : Program} {w0 : World} {L : List Chunk} {l : List Value} {R : Ending → World → Prop} {fn : Func} {v : Value} {b : Nat}
theorem enter {f : FuncId} {c : Code} {args : List Value} {m : Nat} {w : World} (hf : P.funcs[f]? = some fn) (hb : fn.body = some c) (hn : fn.ntmps - args.length = m)
    (k : Hold w [] (c.wpIn (fen none) 0 P (bodyPostM (fen none) 0 P fn R) (frd [] (args ++ List.replicate m undef)))) : Calls P f args.toArray w R := by
  refine fen_calls (n := 0) (callsIn_of_wp_marks hf hb trivial ?_)
  have h1 := k w (St.start w)
  subst hn
  have e : ({ tmps := args.toArray ++ Array.replicate (fn.ntmps - args.toArray.size) undef, defers := [] } : Act) = frd [] (args ++ List.replicate (fn.ntmps - args.length) undef) := by
    simp [frd]
  rw [e]; exact h1
theorem end_ret (hr : ∀ w, St w0 L w → (results fn l.toArray).run P w = .ok v w) (k : Hold w0 L (R (.returned v))) : Hold w0 L (bodyPostM (fen none) 0 P fn R .ret (frd [] l)) := fun w hw => ⟨v, hr w hw, k w hw⟩
theorem end_normal (hr : ∀ w, St w0 L w → (results fn l.toArray).run P w = .ok v w) (k : Hold w0 L (R (.returned v))) : Hold w0 L (bodyPostM (fen none) 0 P fn R .normal (frd [] l)) := fun w hw => ⟨v, hr w hw, k w hw⟩
theorem leaves (hr : ∀ w, St w0 L w → (results fn l.toArray).run P w = .ok v w) (k : Hold w0 L (R (.returned v))) (w : World) (hw : St w0 (L ++ [dfr b]) w) : LeavesInM (fen none) 0 P fn l.toArray R [mark b] .returning w := by
  have h1 : w.heap[b]? = some (.deferred (some [])) := (st_front hw).2.1
  have h2 := st_front (st_put (E' := nul) (o := .deferred none) hw (b := b) rfl trivial (fun _ h => h.elim))
  exact ⟨by simp, .inl ⟨b, _, rfl, run_takeDeferred h1, v, hr _ h2.1, k _ h2.1⟩⟩
theorem end_ret1 {L' : List Chunk} (hL : L' = L'.dropLast ++ [dfr b]) (hr : ∀ w, St w0 L'.dropLast w → (results fn l.toArray).run P w = .ok v w) (k : Hold w0 L'.dropLast (R (.returned v))) : Hold w0 L' (bodyPostM (fen none) 0 P fn R .ret (frd [mark b] l)) := by
  rw [hL]; exact leaves hr k
theorem end_normal1 {L' : List Chunk} (hL : L' = L'.dropLast ++ [dfr b]) (hr : ∀ w, St w0 L'.dropLast w → (results fn l.toArray).run P w = .ok v w) (k : Hold w0 L'.dropLast (R (.returned v))) : Hold w0 L' (bodyPostM (fen none) 0 P fn R .normal (frd [mark b] l)) := by
  rw [hL]; exact leaves hr k
theorem body' {P : Program} {w0 : World} {JL : Nat → List Chunk → Prop} {JX : Code → List Chunk → Prop} {k lr : Nat} {c : Code} {E1 : Chunk} {l2 : List Value} {L : List Chunk} (hL : L = L.dropLast ++ [E1])
    (h : ∀ E, Hold w0 (L.dropLast ++ [E]) (c.wpIn (fen (some lr)) 0 P (RP w0 JL JX k E) (frd [] l2))) : Hold w0 L (Body P w0 JL JX k lr c E1 (frd [] l2)) := by
  rw [hL]; exact body h
/-- What an iterator keeps of its own between two steps. -/
def Keep (f : Nat → Prop) (w : World) (f' : Nat → Prop) (w' : World) : Prop := ∀ i, i < w.heap.size → ¬ f i → ¬ f' i ∧ w'.heap[i]? = w.heap[i]?
theorem Keep.of {f f' : Nat → Prop} {w w' : World} (h1 : Grew f w f') (h2 : Kept f w w') : Keep f w f' w' := fun i hi hf => ⟨fun h => by
  rcases h1 i h with h | h
  · exact hf h
  · omega, h2 i hi hf⟩
theorem lt_of_same {w w' : World} {i : Nat} (hi : i < w.heap.size) (h : w'.heap[i]? = w.heap[i]?) : i < w'.heap.size := by
  rw [Array.getElem?_eq_getElem hi] at h; exact lt_of_some h
theorem Keep.trans {f f' f'' : Nat → Prop} {w w' w'' : World} (h1 : Keep f w f' w') (h2 : Keep f' w' f'' w'') : Keep f w f'' w'' := fun i hi hf => by
  obtain ⟨a1, a2⟩ := h1 i hi hf
  obtain ⟨b1, b2⟩ := h2 i (lt_of_same hi a2) a1
  exact ⟨b1, b2.trans a2⟩
theorem Keep.below {f : Nat → Prop} {w w' : World} (h : Below w.heap.size w w') : Keep f w f w' := fun i hi hf => ⟨hf, h.block i hi⟩
/-- A pointer of the iterator's own, readable and nobody else's. -/
def Own1 (f : Nat → Prop) (w : World) (p : Addr) (us : List Value) : Prop := p.block < w.heap.size ∧ ¬ f p.block ∧ ∀ j u, us[j]? = some u → w.cell? (p.add j) = some u
theorem Own1.ptr {f : Nat → Prop} {w : World} {p : Addr} {us : List Value} (h : Own1 f w p us) : PtrL w [] p us := PtrL.old h.1 h.2.2
theorem Own1.keep {f f' : Nat → Prop} {w w' : World} {p : Addr} {us : List Value} (h : Own1 f w p us) (hk : Keep f w f' w') : Own1 f' w' p us := by
  obtain ⟨a1, a2⟩ := hk _ h.1 h.2.1
  refine ⟨lt_of_same h.1 a2, a1, fun j u hu => ?_⟩
  rw [← h.2.2 j u hu]
  exact World.cell?_of_block (by rw [addr_block]; exact a2)
theorem Own1.blk {f : Nat → Prop} {w0 w : World} {L : List Chunk} {b : Nat} {t : TypeId} {cs : List Value} (hw : St w0 L w) (hm : blk b t cs ∈ L) (hf : ∀ i, f i → i < w0.heap.size) : Own1 f w ⟨b, 0, none⟩ cs := by
  have h1 := hw.2.1 _ hm
  refine ⟨hw.lt hm rfl, fun h => ?_, fun j u hu => ?_⟩
  · have := h1.2 b rfl
    have := hf b h
    omega
  · rw [add_lit, Nat.zero_add]; exact cell_now hw hm hu
end
section
variable {r : Option Nat} {n : Nat} {P : Program} {w0 : World} {L : List Chunk} {D : List Deferred} {ops : Array Oper} {Q : Exit → Act → World → Prop} {rest : List Oper} {l : List Value} {o : Oper} {v : Value} {id : Nat}
theorem lregion {lo : List Oper} (k : Hold w0 L (wpListIn (fen r) n P lo.toArray Q lo (frd D l))) : Hold w0 L ((Code.region id lo.toArray false).wpIn (fen r) n P Q (frd D l)) := fun w hw => wpIn_region_lit (k w hw)
theorem lseq_nil (k : Hold w0 L (Q .normal (frd D l))) : Hold w0 L (wpListIn (fen r) n P ops Q [] (frd D l)) := k
theorem lseq_skip (hg : wantL ops.toList l o.guard = false) (k : Hold w0 L (wpListIn (fen r) n P ops Q rest (frd D (setd l o.dst undef)))) : Hold w0 L (wpListIn (fen r) n P ops Q (o :: rest) (frd D l)) := by
  intro w hw
  unfold wpListIn
  have hy : Region.wanted o (yielded ops (frd D l).tmps) = wantL ops.toList l o.guard := wanted_eq ops l o
  rw [if_neg (by rw [hy, hg]; simp), frd_put]
  exact ⟨fun _ _ => trivial, k w hw⟩
theorem lseq_op {Rr : World → Value → World → Prop} (hd : noDef o = true) (hg : wantL ops.toList l o.guard = true) (h : ∀ w, St w0 L w → OpT P o l w (Rr w))
    (k : ∀ w, St w0 L w → ∀ v w', Rr w v w' → wpListIn (fen r) n P ops Q rest (frd D (setd l o.dst v)) w') : Hold w0 L (wpListIn (fen r) n P ops Q (o :: rest) (frd D l)) := by
  intro w hw
  unfold wpListIn
  have hy : Region.wanted o (yielded ops (frd D l).tmps) = wantL ops.toList l o.guard := wanted_eq ops l o
  rw [if_pos (by rw [hy]; exact hg)]
  refine op_in (D := D) (Q := fun _ _ _ => True) (K := fun a w' => ∃ v, Rr w v w' ∧ a = fr (setd l o.dst v)) hd ?_ (h w hw _ _ (fun v w' hR => ⟨v, hR, rfl⟩))
  rintro a w' ⟨v, hR, rfl⟩
  exact k w hw v w' hR
theorem lseq_pure (h : Pure P o l v) (hd : noDef o = true) (hg : wantL ops.toList l o.guard = true) (k : Hold w0 L (wpListIn (fen r) n P ops Q rest (frd D (setd l o.dst v)))) : Hold w0 L (wpListIn (fen r) n P ops Q (o :: rest) (frd D l)) :=
  lseq_op (Rr := fun w v' w' => v' = v ∧ w' = w) hd hg (fun w _ => OpT.of_run (h w) ⟨rfl, rfl⟩) (fun w hw _ _ ⟨hv, hw'⟩ => by subst hv; subst hw'; exact k _ hw)
theorem lseq_sil (h : Sil P w0 L o l v) (hd : noDef o = true) (hg : wantL ops.toList l o.guard = true) (k : Hold w0 L (wpListIn (fen r) n P ops Q rest (frd D (setd l o.dst v)))) : Hold w0 L (wpListIn (fen r) n P ops Q (o :: rest) (frd D l)) :=
  lseq_op (Rr := fun w v' w' => v' = v ∧ w' = w) hd hg (fun w hw => OpT.of_run (h L w (fun _ h => h) hw) ⟨rfl, rfl⟩) (fun w hw _ _ ⟨hv, hw'⟩ => by subst hv; subst hw'; exact k _ hw)
theorem lsplit {b : Bool} (t : Nat) (hb : nth l t = .bool b) (kt : b = true → Hold w0 L (wpListIn (fen r) n P ops Q rest (frd D (setn l t (.bool true))))) (kf : b = false → Hold w0 L (wpListIn (fen r) n P ops Q rest (frd D (setn l t (.bool false))))) : Hold w0 L (wpListIn (fen r) n P ops Q rest (frd D l)) := by
  cases b with
  | true => have h := kt rfl; rw [← hb, setn_self] at h; exact h
  | false => have h := kf rfl; rw [← hb, setn_self] at h; exact h
/-- A call after which only what the contract tells is known. -/
theorem lseq_wild {d : Option Tmp} {ty : TypeId} {ps : String} {af : Array Edge} {g : Option (Nat × Bool)} {x : Operand} {args : List Operand} {f : FuncId} {first cap : List Value} {ts : Array TypeId} {post : World → Bool → World → Prop} (hx : ev l x = .func (.func f) first.toArray cap.toArray) (hf : callable P f = true)
    (hg : wantL ops.toList l g = true) (hc : ∀ w, St w0 L w → Calls P f (first ++ args.map (ev l) ++ cap).toArray w (fun e w' => ∃ b, e = .returned (.bool b) ∧ post w b w'))
    (k : ∀ w, St w0 L w → ∀ b w', post w b w' → Hold w' [] (wpListIn (fen r) n P ops Q rest (frd D (setd l d (.bool b))))) : Hold w0 L (wpListIn (fen r) n P ops Q (⟨d, .call { callee := .value x, args := args.toArray, argTypes := ts }, ty, ps, af, g⟩ :: rest) (frd D l)) := by
  refine lseq_op (Rr := fun w v w' => ∃ b, v = .bool b ∧ post w b w') rfl hg (fun w hw => OpT.of_enter (w' := w) (f := f) (args := (first ++ args.map (ev l) ++ cap).toArray) ?_ ((hc w hw).mono ?_)) ?_
  · have e : first.toArray ++ args.toArray.map (ev l) ++ cap.toArray = (first ++ args.map (ev l) ++ cap).toArray := by
      apply Array.toList_inj.1; simp
    simp only [execOp, resolve, hx, Deferred.ofValue, Sem.run_bind, Sem.run_pure, Result.andThen_ok, invoke, e, run_call hf]
  · rintro e w' ⟨b, rfl, h⟩
    exact ⟨_, rfl, b, rfl, h⟩
  · rintro w hw v w' ⟨b, rfl, h⟩
    exact k w hw b w' h w' (St.start w')
theorem round_fen {m m' : Nat} {r' : Option Nat} {lr : Nat} {f : FuncId} {tmps : Array Value} {assign body : Code} {w : World} {R : Ending → World → Prop} (h : RoundIn (fen r) m P lr f tmps assign body w R) : RoundIn (fen r') m' P lr f tmps assign body w R :=
  ⟨trivial, fun c cs _ => h.2 c cs (fun _ h => by cases h)⟩
/-- A call of yield. -/
theorem lseq_yield {d : Option Tmp} {ty : TypeId} {ps : String} {af : Array Edge} {g : Option (Nat × Bool)} {x y : Operand} {lr : Nat} {u : Value} {ts : Array TypeId} {post : World → Bool → World → Prop} (hx : ev l x = .func (.yield lr) #[] #[]) (hy : ev l y = u)
    (hg : wantL ops.toList l g = true) (hc : ∀ w, St w0 L w → YieldAt (fen none) 0 P lr #[u] w (fun e w' => ∃ b, e = .returned (.bool b) ∧ post w b w'))
    (k : ∀ w, St w0 L w → ∀ b w', post w b w' → Hold w' [] (wpListIn (fen r) n P ops Q rest (frd D (setd l d (.bool b))))) : Hold w0 L (wpListIn (fen r) n P ops Q (⟨d, .call { callee := .value x, args := #[y], argTypes := ts }, ty, ps, af, g⟩ :: rest) (frd D l)) := by
  intro w hw
  unfold wpListIn
  have hyl : Region.wanted ⟨d, .call { callee := .value x, args := #[y], argTypes := ts }, ty, ps, af, g⟩ (yielded ops (frd D l).tmps) = wantL ops.toList l g := wanted_eq ops l _
  rw [if_pos (by rw [hyl]; exact hg)]
  refine ⟨fun _ _ => trivial, ?_⟩
  have hs : (⟨d, .call { callee := .value x, args := #[y], argTypes := ts }, ty, ps, af, g⟩ : Oper).semAt (fen r).round (frd D l).eval = execOp (ev l) ⟨d, .call { callee := .value x, args := #[y], argTypes := ts }, ty, ps, af, g⟩ := by
    rw [frd_eval]
    cases r with
    | none => rfl
    | some l' => exact Oper.semAt_some l' (ev l) _ (fun c hc => by cases hc)
  obtain ⟨fn, tmps, assign, body, hrun, hround⟩ := hc w hw
  rw [hs]
  have hexec : (execOp (ev l) ⟨d, .call { callee := .value x, args := #[y], argTypes := ts }, ty, ps, af, g⟩).run P w = .ok (.round lr fn tmps assign body) w := by
    simp [execOp, resolve, hx, hy, Deferred.ofValue, Sem.run_bind, Sem.run_pure, Result.andThen_ok, invoke, hrun]
  rw [hexec]
  refine ⟨fun h => (by cases h), (round_fen hround).mono ?_⟩
  rintro e w' ⟨b, rfl, h⟩
  show wpListIn (fen r) n P ops Q rest ((frd D l).put d (.bool b)) w'
  rw [frd_put]
  exact k w hw b w' h w' (St.start w')
end
section
variable {w0 : World} {L : List Chunk} {Q : Exit → Act → World → Prop} {a : Act} {id : Nat}
theorem ng_ret (k : Hold w0 L (Q .ret a)) : Hold w0 L (Exit.noGoto Q .ret a) := k
theorem ng_normal (k : Hold w0 L (Q .normal a)) : Hold w0 L (Exit.noGoto Q .normal a) := k
theorem ng_exit (k : Hold w0 L (Q (.exit id) a)) : Hold w0 L (Exit.noGoto Q (.exit id) a) := k
end
/-- One call of yield, as the iterator sees it. -/
def Step {α : Type} (XS : List α) (J Jx : Nat → (Nat → Prop) → World → Prop) (m : Nat) (k : Nat) (f : Nat → Prop) (w : World) (b : Bool) (w' : World) : Prop :=
  (b = true ∧ ∃ f', J (k + m) f' w' ∧ Keep f w f' w' ∧ ∀ i, f' i → i < w'.heap.size) ∨ (b = false ∧ ∃ k' f', k' ≤ XS.length ∧ Jx k' f' w')
theorem yield_step {α : Type} {P : Program} {lr : Nat} {enc : α → Value} {XS : List α} {J Jx : Nat → (Nat → Prop) → World → Prop} (hR : RoundOK P lr enc XS J Jx) {k : Nat} {x : α} {f : Nat → Prop} {w : World} (hx : XS[k]? = some x) (hJ : J k f w) :
    YieldAt (fen none) 0 P lr #[enc x] w (fun e w' => ∃ b, e = .returned (.bool b) ∧ Step XS J Jx 1 k f w b w') := by
  obtain ⟨fn, tmps, assign, body, h1, h2⟩ := hR k x f w hx hJ
  refine ⟨fn, tmps, assign, body, h1, h2.mono ?_⟩
  rintro e w' ⟨f', hg, hk, hl, h⟩
  rcases h with ⟨he, h⟩ | ⟨he, h⟩
  · exact ⟨true, he, .inl ⟨rfl, f', h, Keep.of hg hk, hl⟩⟩
  · exact ⟨false, he, .inr ⟨rfl, k + 1, f', (List.getElem?_eq_some_iff.1 hx).1, h⟩⟩
theorem Step.fail {α : Type} {XS : List α} {J Jx : Nat → (Nat → Prop) → World → Prop} {m m' k k' : Nat} {f f' : Nat → Prop} {w w1 w' : World} (h : Step XS J Jx m k f w false w') : Step XS J Jx m' k' f' w1 false w' := by
  rcases h with ⟨h, _⟩ | h
  · cases h
  · exact .inr h
end Go.R
namespace Go.K
open Go.RowKit
theorem res_cc {P : Program} {l : List Value} {fn : Func} {p q : Tmp} {ty ty' : TypeId} {b b' : Nat} {v v' : Value} (h : fn.results = #[.cell p ty, .cell q ty']) (hp : nth l p = .pointer (some ⟨b, 0, none⟩)) (hq : nth l q = .pointer (some ⟨b', 0, none⟩)) {w : World} (hv : (loadVar ty ⟨b, 0, none⟩).run P w = .ok v w) (hv' : (loadVar ty' ⟨b', 0, none⟩).run P w = .ok v' w) :
    (results fn l.toArray).run P w = .ok (.tuple #[v, v']) w := by
  have hp' : l.toArray[p]?.getD undef = .pointer (some ⟨b, 0, none⟩) := by rw [← hp, nth_eq]; simp
  have hq' : l.toArray[q]?.getD undef = .pointer (some ⟨b', 0, none⟩) := by rw [← hq, nth_eq]; simp
  simp at hp' hq'
  simp [results, h, hp', hq', asAddr, hv, hv']
end Go.K
