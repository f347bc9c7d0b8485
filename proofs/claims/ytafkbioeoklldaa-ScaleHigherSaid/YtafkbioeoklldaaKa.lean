/-
  A small program logic over the model: what a call owns (chunks of memory, disjoint from each other and from all that was there before), told as a list; worlds stay letters.
  No conditions: plain lemmas over any program.
-/
import Derived.Below
import Derived.Laws.AppendOwn
import Derived.Laws.Rows
import Derived.Laws.Slices
import Derived.Tactics
import Derived.OrdersHeld
import Derived.KernelRfl
import Derived.WalkKit
set_option linter.unusedSimpArgs false
set_option linter.unusedVariables false
namespace Go.K
open Go.RowKit

/-- A part of memory: which blocks it lies in, and what is said of them. -/
structure Chunk where
  foot : Nat → Prop
  holds : World → Prop
  loc : ∀ w w', holds w → (∀ k, foot k → w'.heap[k]? = w.heap[k]?) → holds w'
  live : ∀ w k, holds w → foot k → k < w.heap.size

theorem lt_of_some {w : World} {g : Nat} {o : Obj} (h : w.heap[g]? = some o) : g < w.heap.size :=
  (Array.getElem?_eq_some_iff.1 h).1

/-- Block g is just these cells of element type t, none of them frozen. -/
def blk (g : Nat) (t : TypeId) (cs : List Value) : Chunk where
  foot := fun k => k = g
  holds := fun w => w.heap[g]? = some (.cells cs.toArray t (0, 0))
  loc := fun _ _ h hk => (hk g rfl).trans h
  live := fun _ k h hk => by subst hk; exact lt_of_some h

/-- The slice value v owns the row xs (n elements of 'size' cells). -/
def row (v : Value) (e : TypeId) (size n : Nat) (xs : List Value) : Chunk where
  foot := fun k => v.ownBlock = some k
  holds := fun w => w.ownsRow 0 e size v n xs
  loc := fun w w' h hk => by
    refine ⟨h.1, ?_⟩
    rcases h.2 with hn | ⟨g, cap, cur, rfl, hb, hgg, rest⟩
    · exact .inl hn
    · exact .inr ⟨g, cap, cur, rfl, hb, (hk g rfl).trans hgg, rest⟩
  live := fun _ k h hk => (h.lt k hk).2

def Own (B : Nat) (L : List Chunk) (w : World) : Prop :=
  (∀ c ∈ L, c.holds w ∧ ∀ k, c.foot k → B ≤ k) ∧ L.Pairwise fun c d => ∀ k, c.foot k → ¬ d.foot k

/-- Since the call began in w0 nothing that was there has turned, and the call owns L. -/
def St (w0 : World) (L : List Chunk) (w : World) : Prop := Below w0.heap.size w0 w ∧ Own w0.heap.size L w

def Hold (w0 : World) (L : List Chunk) (G : World → Prop) : Prop := ∀ w, St w0 L w → G w

theorem St.start (w0 : World) : St w0 [] w0 := ⟨Below.refl _ _, by simp [Own]⟩

theorem St.sub {w0 w : World} {L L' : List Chunk} (h : St w0 L w) (hs : List.Sublist L' L) : St w0 L' w :=
  ⟨h.1, fun c hc => h.2.1 c (hs.subset hc), h.2.2.sublist hs⟩

theorem St.perm {w0 w : World} {L L' : List Chunk} (h : St w0 L w) (hp : L.Perm L') : St w0 L' w :=
  ⟨h.1, fun c hc => h.2.1 c (hp.mem_iff.2 hc), (hp.pairwise_iff (fun {_ _} h k hd hc => h k hc hd)).1 h.2.2⟩

theorem St.keep {w0 w w' : World} {L : List Chunk} (h : St w0 L w) (hb : Below w0.heap.size w w') (hk : ∀ c ∈ L, ∀ k, c.foot k → w'.heap[k]? = w.heap[k]?) : St w0 L w' :=
  ⟨h.1.trans hb, fun c hc => ⟨c.loc _ _ (h.2.1 c hc).1 (hk c hc), (h.2.1 c hc).2⟩, h.2.2⟩

theorem St.drew {w0 w : World} {L : List Chunk} (h : St w0 L w) : St w0 L w.drew :=
  h.keep (Below.refl _ _).drew (fun _ _ _ _ => rfl)

theorem St.lt {w0 w : World} {L : List Chunk} (h : St w0 L w) {c : Chunk} (hc : c ∈ L) {k : Nat} (hk : c.foot k) : k < w.heap.size :=
  c.live w k (h.2.1 c hc).1 hk

/-- Behind a call that leaves all that was there as it was, and makes D. -/
theorem St.add {w0 w w' : World} {L D : List Chunk} (h : St w0 L w) (hb : Below w.heap.size w w') (hD : Own w.heap.size D w') : St w0 (D ++ L) w' := by
  have hs := h.1.size
  refine ⟨h.1.trans (hb.mono hs), fun c hc => ?_, ?_⟩
  · rcases List.mem_append.1 hc with hc | hc
    · exact ⟨(hD.1 c hc).1, fun k hk => Nat.le_trans hs ((hD.1 c hc).2 k hk)⟩
    · exact ⟨c.loc _ _ (h.2.1 c hc).1 (fun k hk => hb.block k (h.lt hc hk)), (h.2.1 c hc).2⟩
  · refine List.pairwise_append.2 ⟨hD.2, h.2.2, fun c hc d hd k hk hk' => ?_⟩
    have h1 := (hD.1 c hc).2 k hk
    have h2 := h.lt hd hk'
    omega

theorem own_one {B : Nat} {c : Chunk} {w : World} (h : c.holds w) (hB : ∀ k, c.foot k → B ≤ k) : Own B [c] w :=
  ⟨fun d hd => by simp at hd; subst hd; exact ⟨h, hB⟩, by simp⟩

theorem own_nil {B : Nat} {w : World} : Own B [] w := ⟨by simp, by simp⟩

theorem St.new {w0 w : World} {L : List Chunk} (h : St w0 L w) (t : TypeId) (cs : List Value) : St w0 (blk w.heap.size t cs :: L) (w.alloc (.cells cs.toArray t)) :=
  h.add (D := [blk w.heap.size t cs]) ((Below.refl _ _).alloc (Nat.le_refl _) _) (own_one (heap_alloc_new w _) (fun k hk => by cases hk; exact Nat.le_refl _))

/-- L' is L with c' in the place of c. -/
def Rep (c c' : Chunk) (L L' : List Chunk) : Prop := ∃ A B, L = A ++ c :: B ∧ L' = A ++ c' :: B
theorem Rep.here {c c' : Chunk} {L : List Chunk} : Rep c c' (c :: L) (c' :: L) := ⟨[], L, rfl, rfl⟩
theorem Rep.there {c c' d : Chunk} {L L' : List Chunk} (h : Rep c c' L L') : Rep c c' (d :: L) (d :: L') := by
  obtain ⟨A, B, rfl, rfl⟩ := h; exact ⟨d :: A, B, rfl, rfl⟩
theorem Rep.mem {c c' : Chunk} {L L' : List Chunk} (h : Rep c c' L L') : c ∈ L := by
  obtain ⟨A, B, rfl, rfl⟩ := h; simp

theorem St.upd {w0 w w' : World} {L L' : List Chunk} {c c' : Chunk} {row : Option Nat} (h : St w0 L w) (hr : Rep c c' L L') (hg : w.grownBy w' row) (hrow : ∀ k, row = some k → c.foot k)
    (hc' : c'.holds w') (hf : ∀ k, c'.foot k → c.foot k ∨ w.heap.size ≤ k) : St w0 L' w' := by
  have hs := h.1.size
  have hcm : c ∈ L := hr.mem
  obtain ⟨A, B, rfl, rfl⟩ := hr
  have hcB := (h.2.1 c hcm).2
  have hbel : Below w0.heap.size w w' := ⟨hg.os, hg.tape, hg.output, hg.size, fun k hk => hg.block k (by omega) (fun e => by
    have := hcB k (hrow k e.symm); omega)⟩
  have hp := h.2.2
  have hpA := List.pairwise_append.1 hp
  have hpc := List.pairwise_cons.1 hpA.2.1
  have other : ∀ d, d ∈ A ∨ d ∈ B → ∀ k, d.foot k → w'.heap[k]? = w.heap[k]? := fun d hd k hk => by
    have hm : d ∈ A ++ c :: B := by rcases hd with hd | hd <;> simp [hd]
    refine hg.block k (h.lt hm hk) (fun e => ?_)
    have hck := hrow k e.symm
    rcases hd with hd | hd
    · exact hpA.2.2 d hd c (by simp) k hk hck
    · exact hpc.1 d hd k hck hk
  refine ⟨h.1.trans hbel, fun d hd => ?_, ?_⟩
  · rcases List.mem_append.1 hd with hd | hd
    · exact ⟨d.loc _ _ (h.2.1 d (by simp [hd])).1 (other d (.inl hd)), (h.2.1 d (by simp [hd])).2⟩
    · rcases List.mem_cons.1 hd with rfl | hd
      · exact ⟨hc', fun k hk => by
          rcases hf k hk with h1 | h1
          · exact hcB k h1
          · omega⟩
      · exact ⟨d.loc _ _ (h.2.1 d (by simp [hd])).1 (other d (.inr hd)), (h.2.1 d (by simp [hd])).2⟩
  · refine List.pairwise_append.2 ⟨hpA.1, List.pairwise_cons.2 ⟨fun d hd k hk hk' => ?_, hpc.2⟩, fun d hd e he k hk hk' => ?_⟩
    · rcases hf k hk with h1 | h1
      · exact hpc.1 d hd k h1 hk'
      · have := h.lt (c := d) (by simp [hd]) hk'; omega
    · rcases List.mem_cons.1 he with rfl | he
      · rcases hf k hk' with h1 | h1
        · exact hpA.2.2 d hd c (by simp) k hk h1
        · have := h.lt (c := d) (by simp [hd]) hk; omega
      · exact hpA.2.2 d hd e (by simp [he]) k hk hk'

theorem grownBy_setCell (w : World) (p : Addr) (v : Value) : w.grownBy (w.setCell p v) (some p.block) :=
  ⟨rfl, rfl, rfl, by simp [World.setCell], fun k _ hne => Below.heap_setCell w p v k (fun e => hne (by rw [e]))⟩

theorem blk_set {w : World} {g : Nat} {t : TypeId} {cs : List Value} (h : (blk g t cs).holds w) (i : Nat) (v : Value) : (blk g t (cs.set i v)).holds (w.setCell ⟨g, i, none⟩ v) := by
  show (w.setCell ⟨g, i, none⟩ v).heap[g]? = _
  have h' : w.heap[g]? = some (.cells cs.toArray t (0, 0)) := h
  simp [World.setCell, Array.getElem?_modify, h']

theorem blk_cell {w : World} {g : Nat} {t : TypeId} {cs : List Value} (h : (blk g t cs).holds w) (i : Nat) : w.cell? ⟨g, i, none⟩ = cs[i]? := by
  have h' : w.heap[g]? = some (.cells cs.toArray t (0, 0)) := h
  simp [cell_of_row w g i _ t _ h']

theorem blk_free {w : World} {g : Nat} {t : TypeId} {cs : List Value} (h : (blk g t cs).holds w) (i : Nat) : w.frozen? ⟨g, i, none⟩ = false := by
  have h' : w.heap[g]? = some (.cells cs.toArray t (0, 0)) := h
  simp [World.frozen?, h']

/-! ### Frames -/
def nth : List Value → Nat → Value
  | [], _ => undef
  | v :: _, 0 => v
  | _ :: l, n + 1 => nth l n
def setn : List Value → Nat → Value → List Value
  | [], _, _ => []
  | _ :: l, 0, u => u :: l
  | v :: l, n + 1, u => v :: setn l n u
def setd (l : List Value) : Option Tmp → Value → List Value
  | some d, v => setn l d v
  | none, _ => l
def fr (l : List Value) : Act := { tmps := l.toArray, defers := [] }
def ev (l : List Value) : Operand → Value
  | .tmp t => nth l t
  | .const v => v
  | .global g => .pointer (some ⟨g, 0, none⟩)
  | .func f => .func (.func f) #[] #[]
theorem nth_eq (l : List Value) : ∀ n, nth l n = l.toArray.getD n undef := by
  induction l with
  | nil => intro n; simp [nth]
  | cons v l ih => intro n; cases n <;> simp_all [nth]
theorem setn_eq (l : List Value) : ∀ n u, setn l n u = l.set n u := by
  induction l with
  | nil => intro n u; rfl
  | cons v l ih => intro n u; cases n <;> simp_all [setn]
theorem fr_eval (l : List Value) : (fr l).eval = ev l := by
  funext x
  cases x <;> simp [Act.eval, fr, ev, nth_eq]
theorem fr_put (l : List Value) (d : Option Tmp) (v : Value) : (fr l).put d v = fr (setd l d v) := by
  cases d <;> simp [Act.put, fr, setd, setn_eq]

/-! ### One operation -/
def Pure (P : Program) (o : Oper) (l : List Value) (v : Value) : Prop := ∀ w, (execOp (ev l) o).run P w = .ok (.value v) w
/-- The operation reads what is owned, or was there before. -/
def Sil (P : Program) (w0 : World) (L : List Chunk) (o : Oper) (l : List Value) (v : Value) : Prop :=
  ∀ F w, (∀ c ∈ L, c ∈ F) → St w0 F w → (execOp (ev l) o).run P w = .ok (.value v) w
def OpT (P : Program) (o : Oper) (l : List Value) (w : World) (R : Value → World → Prop) : Prop :=
  ∀ (K : Act → World → Prop) (Q : Exit → Act → World → Prop), (∀ v w', R v w' → K (fr (setd l o.dst v)) w') → o.wp P (fr l) w K Q

theorem OpT.of_run {P : Program} {o : Oper} {l : List Value} {w w' : World} {v : Value} {R : Value → World → Prop} (h : (execOp (ev l) o).run P w = .ok (.value v) w') (hR : R v w') : OpT P o l w R := by
  intro K Q hK
  unfold Oper.wp
  rw [fr_eval, h, Oper.upon_value, fr_put]
  exact hK _ _ hR
theorem OpT.of_skip {P : Program} {o : Oper} {l : List Value} {w w' : World} {R : Value → World → Prop} (h : (execOp (ev l) o).run P w = .ok .skip w') (hR : R undef w') : OpT P o l w R := by
  intro K Q hK
  unfold Oper.wp
  rw [fr_eval, h, Oper.upon_skip, fr_put]
  exact hK _ _ hR
theorem OpT.of_enter {P : Program} {o : Oper} {l : List Value} {w w' : World} {f : FuncId} {args : Array Value} {R : Value → World → Prop} (h : (execOp (ev l) o).run P w = .ok (.enter f args) w')
    (hc : Calls P f args w' fun e w'' => ∃ v, e = .returned v ∧ R v w'') : OpT P o l w R := by
  intro K Q hK
  unfold Oper.wp
  rw [fr_eval, h, Oper.upon_enter]
  refine hc.mono ?_
  rintro e w'' ⟨v, rfl, hR⟩
  show K ((fr l).put o.dst v) w''
  rw [fr_put]
  exact hK _ _ hR

/-- What a world-turning operation gives: a value and fresh chunks by a choice r. -/
def Loud {ρ : Type} (P : Program) (w0 : World) (L : List Chunk) (o : Oper) (l : List Value) (ok : ρ → Prop) (val : ρ → Value) (D : ρ → List Chunk) : Prop :=
  ∀ F w, (∀ c ∈ L, c ∈ F) → St w0 F w → OpT P o l w fun v w' => ∃ r, ok r ∧ v = val r ∧ St w0 (D r ++ F) w'
def Upd {ρ : Type} (P : Program) (w0 : World) (L : List Chunk) (o : Oper) (l : List Value) (ok : ρ → Prop) (val : ρ → Value) (L' : ρ → List Chunk) : Prop :=
  ∀ w, St w0 L w → OpT P o l w fun v w' => ∃ r, ok r ∧ v = val r ∧ St w0 (L' r) w'

def nthD : List Oper → Nat → Option Tmp
  | [], _ => none
  | o :: _, 0 => o.dst
  | _ :: l, n + 1 => nthD l n
def nthP : List Oper → Nat → Option Oper
  | [], _ => none
  | o :: _, 0 => some o
  | _ :: l, n + 1 => nthP l n
/-- Is an operation with this guard carried out? -/
def wantL (ops : List Oper) (l : List Value) : Option (Nat × Bool) → Bool
  | none => true
  | some (j, b) => match nthD ops j with
    | some t => match nth l t with
      | .bool c => c == b
      | _ => false
    | none => false
theorem nthD_eq : ∀ (ops : List Oper) j, (ops[j]?).bind (·.dst) = nthD ops j
  | [], _ => by simp [nthD]
  | o :: l, 0 => by simp [nthD]
  | o :: l, n + 1 => by simpa [nthD] using nthD_eq l n
theorem nthP_eq : ∀ (ops : List Oper) j, ops[j]? = nthP ops j
  | [], _ => by simp [nthP]
  | o :: l, 0 => by simp [nthP]
  | o :: l, n + 1 => by simpa [nthP] using nthP_eq l n
theorem wanted_eq (ops : Array Oper) (l : List Value) (o : Oper) : Region.wanted o (yielded ops (fr l).tmps) = wantL ops.toList l o.guard := by
  unfold Region.wanted wantL
  cases o.guard with
  | none => rfl
  | some jb =>
    obtain ⟨j, b⟩ := jb
    simp only [yielded, ← nthD_eq, Array.getElem?_toList]
    cases h : (ops[j]?).bind (·.dst) with
    | none => simp
    | some t =>
      have e : (fr l).tmps[t]? = l[t]? := by simp [fr]
      simp only [Option.bind_some, e]
      have e2 : nth l t = (l[t]?).getD undef := by rw [nth_eq]; simp
      rw [e2]
      cases hl : l[t]? with
      | none => simp [undef]
      | some v => cases v <;> simp

/-! ### A region in the text's order -/
section
variable {P : Program} {w0 : World} {L : List Chunk} {ops : Array Oper} {Q : Exit → Act → World → Prop} {rest : List Oper} {l : List Value} {o : Oper} {v : Value} {id : Nat}

theorem region (k : Hold w0 L (wpList P ops Q ops.toList (fr l))) : Hold w0 L ((Code.region id ops false).wp P Q (fr l)) :=
  fun w hw => wp_region_list (k w hw)
theorem region_lit {lo : List Oper} (k : Hold w0 L (wpList P lo.toArray Q lo (fr l))) : Hold w0 L ((Code.region id lo.toArray false).wp P Q (fr l)) :=
  fun w hw => wp_region_lit (k w hw)
theorem seq_nil (k : Hold w0 L (Q .normal (fr l))) : Hold w0 L (wpList P ops Q [] (fr l)) := k
theorem seq_skip (hg : wantL ops.toList l o.guard = false) (k : Hold w0 L (wpList P ops Q rest (fr (setd l o.dst undef)))) : Hold w0 L (wpList P ops Q (o :: rest) (fr l)) := by
  intro w hw
  unfold wpList
  rw [if_neg (by rw [wanted_eq, hg]; simp), fr_put]
  exact k w hw
theorem seq_op {R : World → Value → World → Prop} (hg : wantL ops.toList l o.guard = true) (h : ∀ w, St w0 L w → OpT P o l w (R w))
    (k : ∀ w, St w0 L w → ∀ v w', R w v w' → wpList P ops Q rest (fr (setd l o.dst v)) w') : Hold w0 L (wpList P ops Q (o :: rest) (fr l)) := by
  intro w hw
  unfold wpList
  rw [if_pos (by rw [wanted_eq]; exact hg)]
  exact .inl (h w hw _ _ (k w hw))
theorem seq_pure (h : Pure P o l v) (hg : wantL ops.toList l o.guard = true) (k : Hold w0 L (wpList P ops Q rest (fr (setd l o.dst v)))) : Hold w0 L (wpList P ops Q (o :: rest) (fr l)) :=
  seq_op (R := fun w v' w' => v' = v ∧ w' = w) hg (fun w _ => OpT.of_run (h w) ⟨rfl, rfl⟩) (fun w hw _ _ ⟨hv, hw'⟩ => by subst hv; subst hw'; exact k _ hw)
theorem seq_sil (h : Sil P w0 L o l v) (hg : wantL ops.toList l o.guard = true) (k : Hold w0 L (wpList P ops Q rest (fr (setd l o.dst v)))) : Hold w0 L (wpList P ops Q (o :: rest) (fr l)) :=
  seq_op (R := fun w v' w' => v' = v ∧ w' = w) hg (fun w hw => OpT.of_run (h L w (fun _ h => h) hw) ⟨rfl, rfl⟩) (fun w hw _ _ ⟨hv, hw'⟩ => by subst hv; subst hw'; exact k _ hw)
theorem seq_loud {ρ : Type} {ok : ρ → Prop} {val : ρ → Value} {D : ρ → List Chunk} (h : Loud P w0 L o l ok val D) (hg : wantL ops.toList l o.guard = true)
    (k : ∀ r, ok r → Hold w0 (D r ++ L) (wpList P ops Q rest (fr (setd l o.dst (val r))))) : Hold w0 L (wpList P ops Q (o :: rest) (fr l)) :=
  seq_op hg (fun w hw => h L w (fun _ h => h) hw) (fun _ _ v w' ⟨r, hr, hv, hst⟩ => by subst hv; exact k r hr w' hst)
theorem seq_upd {ρ : Type} {ok : ρ → Prop} {val : ρ → Value} {L' : ρ → List Chunk} (h : Upd P w0 L o l ok val L') (hg : wantL ops.toList l o.guard = true)
    (k : ∀ r, ok r → Hold w0 (L' r) (wpList P ops Q rest (fr (setd l o.dst (val r))))) : Hold w0 L (wpList P ops Q (o :: rest) (fr l)) :=
  seq_op hg (fun w hw => h w hw) (fun _ _ v w' ⟨r, hr, hv, hst⟩ => by subst hv; exact k r hr w' hst)
end

/-! ### Code -/
section
variable {P : Program} {w0 : World} {L : List Chunk} {Q : Exit → Act → World → Prop} {l : List Value} {x y : Code} {id n : Nat} {c : Operand} {b : Bool}
theorem seq (k : Hold w0 L (x.wp P (Exit.then (y.wp P Q) Q) (fr l))) : Hold w0 L ((Code.seq x y).wp P Q (fr l)) := fun w hw => wp_seq (k w hw)
theorem skip (k : Hold w0 L (Q .normal (fr l))) : Hold w0 L (Code.skip.wp P Q (fr l)) := fun w hw => wp_skip (k w hw)
theorem label (k : Hold w0 L (Q .normal (fr l))) : Hold w0 L ((Code.label n).wp P Q (fr l)) := fun w hw => wp_label (k w hw)
theorem exit (k : Hold w0 L (Q (.exit id) (fr l))) : Hold w0 L ((Code.exit id).wp P Q (fr l)) := fun w hw => wp_exit (k w hw)
theorem ret (k : Hold w0 L (Q .ret (fr l))) : Hold w0 L (Code.ret.wp P Q (fr l)) := fun w hw => wp_ret (k w hw)
theorem block (k : Hold w0 L (x.wp P (Exit.inBlock id Q) (fr l))) : Hold w0 L ((Code.block id x).wp P Q (fr l)) := fun w hw => wp_block (k w hw)
theorem cond (hc : ev l c = .bool b) (kt : b = true → Hold w0 L (x.wp P Q (fr l))) (kf : b = false → Hold w0 L (y.wp P Q (fr l))) : Hold w0 L ((Code.cond c x y).wp P Q (fr l)) :=
  fun w hw => wp_cond_split (t := b) (by rw [fr_eval]; exact hc) (fun h => kt h w hw) (fun h => kf h w hw)
theorem cond_true (hc : ev l c = .bool true) (kt : Hold w0 L (x.wp P Q (fr l))) : Hold w0 L ((Code.cond c x y).wp P Q (fr l)) :=
  cond hc (fun _ => kt) (fun h => by cases h)
theorem cond_false (hc : ev l c = .bool false) (kf : Hold w0 L (y.wp P Q (fr l))) : Hold w0 L ((Code.cond c x y).wp P Q (fr l)) :=
  cond hc (fun h => by cases h) (fun _ => kf)
/-- Only what is still wanted is carried on. -/
theorem weaken {G : World → Prop} {L' : List Chunk} (hs : List.Sublist L' L) (k : Hold w0 L' G) : Hold w0 L G := fun w hw => k w (hw.sub hs)
theorem reorder {G : World → Prop} {L' : List Chunk} (hs : L.Perm L') (k : Hold w0 L' G) : Hold w0 L G := fun w hw => k w (hw.perm hs)
/-- A loop: the states at a round's head are those of I. -/
theorem loop (I : List Value → List Chunk → Prop) (μ : List Value → Nat) (h0 : I l L)
    (round : ∀ l L, I l L → Hold w0 L (x.wp P (Exit.then (fun a w => ∃ l' L', a = fr l' ∧ I l' L' ∧ μ l' < μ l ∧ St w0 L' w) Q) (fr l))) :
    Hold w0 L ((Code.loop x).wp P Q (fr l)) := by
  intro w hw
  refine wp_loop (fun a w => ∃ l L, a = fr l ∧ I l L ∧ St w0 L w) (fun a _ => μ a.tmps.toList) ⟨l, L, rfl, h0, hw⟩ ?_
  rintro a w ⟨l, L, rfl, hI, hst⟩
  refine wp_mono (round l L hI w hst) (fun e a' w' hq => ?_)
  cases e with
  | normal =>
    obtain ⟨l', L', rfl, hI', hlt, hst'⟩ := hq
    exact ⟨⟨l', L', rfl, hI', hst'⟩, by simpa [fr] using hlt⟩
  | _ => exact hq
theorem round_end {I : List Value → List Chunk → Prop} {μ : List Value → Nat} {l0 : List Value} (hI : I l L) (hμ : μ l < μ l0) :
    Hold w0 L (fun w => ∃ l' L', fr l = fr l' ∧ I l' L' ∧ μ l' < μ l0 ∧ St w0 L' w) := fun _ hw => ⟨l, L, rfl, hI, hμ, hw⟩
end

/-! ### A call's contract -/
/-- The call returns the value of some choice r that is ok, in a world in which all that was there is as it was, and which holds D r besides. -/
def Ret {ρ : Type} (ok : ρ → Prop) (val : ρ → Value) (D : ρ → List Chunk) (w : World) : Ending → World → Prop :=
  fun e w' => ∃ r, ok r ∧ e = .returned (val r) ∧ St w (D r) w'
/-- The call only computes: its value is v. -/
def Gives (v : Value) (w : World) : Ending → World → Prop := fun e w' => e = .returned v ∧ Below w.heap.size w w'

theorem enter {P : Program} {f : FuncId} {fn : Func} {c : Code} {args : List Value} {n : Nat} {w : World} {R : Ending → World → Prop} (hf : P.funcs[f]? = some fn) (hb : fn.body = some c) (hn : fn.ntmps - args.length = n)
    (k : Hold w [] (c.wp P (bodyPost P fn R) (fr (args ++ List.replicate n undef)))) : Calls P f args.toArray w R := by
  refine calls_of_wp hf hb ?_
  have h1 := k w (St.start w)
  subst hn
  have e : args.toArray ++ Array.replicate (fn.ntmps - args.toArray.size) undef = (args ++ List.replicate (fn.ntmps - args.length) undef).toArray := by
    apply Array.toList_inj.1; simp
  rw [e]
  exact h1
theorem end_ret {P : Program} {fn : Func} {R : Ending → World → Prop} {w0 : World} {L : List Chunk} {l : List Value} {v : Value}
    (hr : ∀ w, St w0 L w → (results fn l.toArray).run P w = .ok v w) (k : Hold w0 L (R (.returned v))) : Hold w0 L (bodyPost P fn R .ret (fr l)) :=
  fun w hw => ⟨rfl, v, hr w hw, k w hw⟩
theorem end_normal {P : Program} {fn : Func} {R : Ending → World → Prop} {w0 : World} {L : List Chunk} {l : List Value} {v : Value}
    (hr : ∀ w, St w0 L w → (results fn l.toArray).run P w = .ok v w) (k : Hold w0 L (R (.returned v))) : Hold w0 L (bodyPost P fn R .normal (fr l)) :=
  fun w hw => ⟨rfl, v, hr w hw, k w hw⟩
theorem res_none {P : Program} {fn : Func} {l : List Value} (h : fn.results = #[]) (w : World) : (results fn l.toArray).run P w = .ok (.tuple #[]) w := results_none h _ _ _
theorem res_tmp {P : Program} {fn : Func} {l : List Value} {t : Tmp} (h : fn.results = #[.tmp t]) (w : World) : (results fn l.toArray).run P w = .ok (nth l t) w := by
  rw [results_tmp h, nth_eq]
theorem res_tmp2 {P : Program} {fn : Func} {l : List Value} {t u : Tmp} (h : fn.results = #[.tmp t, .tmp u]) (w : World) : (results fn l.toArray).run P w = .ok (.tuple #[nth l t, nth l u]) w := by
  rw [results_tmp2 h, nth_eq, nth_eq]
theorem gives {w : World} {L : List Chunk} {v v' : Value} (h : v = v') : Hold w L (Gives v' w (.returned v)) := fun _ hw => ⟨by rw [h], hw.1⟩
theorem rets {ρ : Type} {ok : ρ → Prop} {val : ρ → Value} {D : ρ → List Chunk} {w : World} {L : List Chunk} {v : Value} (r : ρ) (hok : ok r) (hv : v = val r) (hD : List.Sublist (D r) L) : Hold w L (Ret ok val D w (.returned v)) :=
  fun _ hw => ⟨r, hok, by rw [hv], hw.sub hD⟩

end Go.K
