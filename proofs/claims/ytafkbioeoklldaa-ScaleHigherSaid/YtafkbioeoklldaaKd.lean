/-
  Regions that draw their order: what touches no world, and what reads only what no other operation of the region writes, may be taken first; what is left is met in its order.
  No conditions: plain lemmas over any program.
-/
import Derived.Test.YtafkbioeoklldaaKc
set_option linter.unusedSimpArgs false
set_option linter.unusedVariables false
namespace Go.K
open Go.RowKit

section
variable {P : Program} {ops : Array Oper} {Q : Exit → Act → World → Prop} {S : World → Prop} {B : Nat → Bool}

/-- Whatever order is picked from here on; behind every operation that B does not name S is kept. -/
def wpAnyU (P : Program) (ops : Array Oper) (Q : Exit → Act → World → Prop) (S : World → Prop) (B : Nat → Bool) : Nat → Array Bool → Act → World → Prop
  | 0, listed, a, w => Region.ready .any ops listed = [] ∧ Q .normal a w
  | fuel + 1, listed, a, w =>
    (Region.ready .any ops listed = [] → Q .normal a w) ∧
    ∀ i ∈ Region.ready .any ops listed, wpOp P ops Q i (fun a' w' => (B i = false → S w → S w') ∧ wpAnyU P ops Q S B fuel (listed.setIfInBounds i true) a' w') a w

theorem wpAny_of_U : ∀ (fuel : Nat) (listed : Array Bool) (a : Act) (w : World), wpAnyU P ops Q S B fuel listed a w → wpAny P .any ops Q fuel listed a w
  | 0, _, _, _, h => h
  | fuel + 1, _, _, _, h => ⟨h.1, fun i hi => wpOp_mono (fun a' w' h' => wpAny_of_U fuel _ a' w' h'.2) (h.2 i hi)⟩

def noPanic (Q : Exit → Act → World → Prop) : Exit → Act → World → Prop
  | .panic _, _, _ => False
  | e, a, w => Q e a w

/-- j waits for i by an edge of its own. -/
def waits (ops : Array Oper) (j i : Nat) : Bool :=
  match ops[j]? with
  | some oj => oj.after.any fun e => Region.binds .any e && e.on == i
  | none => false
theorem waits_spec {j i : Nat} (h : waits ops j i = true) : ∃ oj, ops[j]? = some oj ∧ ∃ e ∈ oj.after, Region.binds .any e = true ∧ e.on = i := by
  unfold waits at h
  split at h
  · rename_i oj hj
    obtain ⟨e, he, hb⟩ := Array.any_eq_true'.1 h
    simp only [Bool.and_eq_true, beq_iff_eq] at hb
    exact ⟨oj, hj, e, he, hb.1, hb.2⟩
  · cases h

theorem unlisted_ready {i j : Nat} {listed : Array Bool} (hi : listed.getD i true = false) (hw : waits ops j i = true) : j ∉ Region.ready .any ops listed := fun hr => by
  obtain ⟨_, oj, hoj, hall⟩ := mem_ready.1 hr
  obtain ⟨oj', hoj', e, he, hb, hon⟩ := waits_spec hw
  rw [hoj] at hoj'
  cases hoj'
  have h1 := hall e he hb
  rw [hon] at h1
  rcases Nat.lt_or_ge i listed.size with h' | h'
  · simp [h'] at hi h1; rw [hi] at h1; cases h1
  · simp [Array.getElem?_eq_none h'] at h1

/-- An operation that yields v in every world that meets S may be taken first, if nobody of B comes ahead of it. -/
theorem wpAnyU_mem {i : Nat} {oi : Oper} {v : Value} (hi : ops[i]? = some oi) (hsel : ∀ (j : Nat) (o : Oper) cs b, ops[j]? = some o → o.op ≠ .select cs b)
    (hQ : ∀ c a w, Q (.panic c) (a.put oi.dst v) w → Q (.panic c) a w) :
    ∀ (fuel : Nat) (listed : Array Bool) (a : Act) (w : World),
      (∀ j oj, ops[j]? = some oj → j ≠ i → listed.getD j true = false → (∀ e ∈ oj.after, Region.binds .any e = true → e.on ≠ i) → oi.apart ops oj = true) →
      (∀ j, B j = true → listed.getD j true = false → j ≠ i → waits ops j i = true) →
      i ∈ Region.ready .any ops listed → YieldsIf P ops S oi v a → S w →
      wpAnyU P ops Q S B fuel (listed.setIfInBounds i true) (a.put oi.dst v) w → wpAnyU P ops Q S B (fuel + 1) listed a w := by
  intro fuel
  induction fuel with
  | zero =>
    intro listed a w _ _ hr hy hS H
    refine ⟨fun h => (by rw [h] at hr; cases hr), fun j hj => ?_⟩
    by_cases hji : j = i
    · subst hji; exact hy.wpOp hi hS ⟨fun _ h => h, H⟩
    · have := ready_mono hj hji
      rw [H.1] at this
      cases this
  | succ fuel ih =>
    intro listed a w hfree hB hr hy hS H
    refine ⟨fun h => (by rw [h] at hr; cases hr), fun j hj => ?_⟩
    by_cases hji : j = i
    · subst hji; exact hy.wpOp hi hS ⟨fun _ h => h, H⟩
    · have h1 := H.2 j (ready_mono hj hji)
      obtain ⟨hjun, oj, hoj, hall⟩ := mem_ready.1 hj
      have hiun := (mem_ready.1 hr).1
      have hBj : B j = false := by
        cases hb : B j with
        | false => rfl
        | true => exact absurd hj (unlisted_ready hiun (hB j hb hjun hji))
      have hnot : ∀ e ∈ oj.after, Region.binds .any e = true → e.on ≠ i := fun e he hb heq => by
        have h1 := hall e he hb
        rw [heq] at h1
        rcases Nat.lt_or_ge i listed.size with h' | h'
        · simp [h'] at hiun h1; rw [hiun] at h1; cases h1
        · simp [Array.getElem?_eq_none h'] at h1
      have h2 := wpOp_putIf hoj (hfree j oj hoj hji hjun hnot) (fun cs b => hsel i oi cs b hi) (fun cs b => hsel j oj cs b hoj) hQ hy h1
      have back : ∀ k, (listed.setIfInBounds j true).getD k true = false → listed.getD k true = false := fun k hun => by
        by_cases hjk : j = k
        · subst hjk; exact hjun
        · rw [getD_set_ne true hjk] at hun; exact hun
      have hfree' : ∀ k ok, ops[k]? = some ok → k ≠ i → (listed.setIfInBounds j true).getD k true = false →
          (∀ e ∈ ok.after, Region.binds .any e = true → e.on ≠ i) → oi.apart ops ok = true := fun k ok hk hki hun hno => hfree k ok hk hki (back k hun) hno
      refine wpOp_mono (fun a' w' h3 => ⟨fun hb hs => h3.2.1 hb hs, ih (listed.setIfInBounds j true) a' w' hfree' (fun k hb hun hki => hB k hb (back k hun) hki) (ready_mono hr (Ne.symm hji)) h3.1 (h3.2.1 hBj hS) ?_⟩) h2
      rw [Array.setIfInBounds_comm _ _ hji]
      exact h3.2.2

/-- An operation that yields v in whatever world may be taken first. -/
theorem wpAnyU_pure {i : Nat} {oi : Oper} {v : Value} (hi : ops[i]? = some oi) (hsel : ∀ (j : Nat) (o : Oper) cs b, ops[j]? = some o → o.op ≠ .select cs b)
    (hQ : ∀ c a w, Q (.panic c) (a.put oi.dst v) w → Q (.panic c) a w) :
    ∀ (fuel : Nat) (listed : Array Bool) (a : Act) (w : World),
      (∀ j oj, ops[j]? = some oj → j ≠ i → listed.getD j true = false → (∀ e ∈ oj.after, Region.binds .any e = true → e.on ≠ i) → oi.apart ops oj = true) →
      i ∈ Region.ready .any ops listed → Yields P ops oi v a →
      wpAnyU P ops Q S B fuel (listed.setIfInBounds i true) (a.put oi.dst v) w → wpAnyU P ops Q S B (fuel + 1) listed a w := by
  intro fuel
  induction fuel with
  | zero =>
    intro listed a w _ hr hy H
    refine ⟨fun h => (by rw [h] at hr; cases hr), fun j hj => ?_⟩
    by_cases hji : j = i
    · subst hji; exact hy.wpOp hi ⟨fun _ h => h, H⟩
    · have := ready_mono hj hji
      rw [H.1] at this
      cases this
  | succ fuel ih =>
    intro listed a w hfree hr hy H
    refine ⟨fun h => (by rw [h] at hr; cases hr), fun j hj => ?_⟩
    by_cases hji : j = i
    · subst hji; exact hy.wpOp hi ⟨fun _ h => h, H⟩
    · have h1 := H.2 j (ready_mono hj hji)
      obtain ⟨hjun, oj, hoj, hall⟩ := mem_ready.1 hj
      have hiun := (mem_ready.1 hr).1
      have hnot : ∀ e ∈ oj.after, Region.binds .any e = true → e.on ≠ i := fun e he hb heq => by
        have h1 := hall e he hb
        rw [heq] at h1
        rcases Nat.lt_or_ge i listed.size with h' | h'
        · simp [h'] at hiun h1; rw [hiun] at h1; cases h1
        · simp [Array.getElem?_eq_none h'] at h1
      have h2 := wpOp_put hoj (hfree j oj hoj hji hjun hnot) (fun cs b => hsel i oi cs b hi) (fun cs b => hsel j oj cs b hoj) hQ hy h1
      have hfree' : ∀ k ok, ops[k]? = some ok → k ≠ i → (listed.setIfInBounds j true).getD k true = false →
          (∀ e ∈ ok.after, Region.binds .any e = true → e.on ≠ i) → oi.apart ops ok = true := fun k ok hk hki hun hno => by
        refine hfree k ok hk hki ?_ hno
        by_cases hjk : j = k
        · subst hjk; exact hjun
        · rw [getD_set_ne true hjk] at hun; exact hun
      refine wpOp_mono (fun a' w' h3 => ⟨fun hb hs => h3.2.1 hb hs, ih (listed.setIfInBounds j true) a' w' hfree' (ready_mono hr (Ne.symm hji)) h3.1 ?_⟩) h2
      rw [Array.setIfInBounds_comm _ _ hji]
      exact h3.2.2
end

/-! ### The moves -/
def Keeps (w0 : World) (A : List Chunk) (w : World) : Prop := ∃ F, (∀ c ∈ A, c ∈ F) ∧ St w0 F w
/-- May number i be taken now? -/
def takeB (ops : Array Oper) (listed : Array Bool) (i : Nat) : Bool := Region.noSelect ops && (Region.free .any ops listed i && (Region.ready .any ops listed).contains i)
def waitB (ops : Array Oper) (bl : List Nat) (listed : Array Bool) (i : Nat) : Bool := bl.all fun j => listed.getD j true || j == i || waits ops j i
def DHold (P : Program) (w0 : World) (ops : Array Oper) (Q : Exit → Act → World → Prop) (A : List Chunk) (bl : List Nat) (fuel : Nat) (listed : Array Bool) (l : List Value) (L : List Chunk) : Prop :=
  ∀ w, St w0 L w → wpAnyU P ops (noPanic Q) (Keeps w0 A) (fun j => bl.contains j) fuel listed (fr l) w

section
variable {P : Program} {w0 : World} {L A : List Chunk} {ops : Array Oper} {Q : Exit → Act → World → Prop} {l : List Value} {o : Oper} {v : Value} {id i fuel : Nat} {bl : List Nat} {listed : Array Bool}

theorem wpAny_noPanic : ∀ (fuel : Nat) (listed : Array Bool) (a : Act) (w : World), wpAny P .any ops (noPanic Q) fuel listed a w → wpAny P .any ops Q fuel listed a w := by
  have keyOp : ∀ (o : Oper) (K : Act → World → Prop) a w, o.wp P a w K (noPanic Q) → o.wp P a w K Q := fun o K a w h => by
    unfold Oper.wp at *
    generalize (execOp a.eval o).run P w = r at *
    cases r with
    | ok n w' =>
      cases n <;> simp only [Oper.upon] at h ⊢ <;> first
        | exact h
        | exact Calls.mono h (fun e w'' he => by cases e <;> first | exact he | exact he.elim | (obtain ⟨a0, w0, h0⟩ := he; exact ⟨a0, w0, h0⟩))
    | halt x w' => cases x <;> simp only [Oper.upon] at h ⊢ <;> first | exact h | exact h.elim
  have keyW : ∀ (i : Nat) (K : Act → World → Prop) a w, wpOp P ops (noPanic Q) i K a w → wpOp P ops Q i K a w := fun i K a w h => by
    unfold wpOp at *
    split
    · rename_i hn; simpa [hn] using h
    · rename_i o ho
      simp only [ho] at h
      split
      · rename_i hw
        simp only [hw, if_true] at h
        rcases h with h | ⟨hask, a0, w0, h0⟩
        · exact .inl (keyOp o K a w h)
        · exact .inr ⟨hask, a0, w0, h0⟩
      · rename_i hw; simpa [hw] using h
  intro fuel
  induction fuel with
  | zero => intro listed a w h; exact h
  | succ fuel ih => intro listed a w h; exact ⟨h.1, fun i hi => keyW i _ a w (wpOp_mono (fun a' w' h' => ih _ a' w' h') (h.2 i hi))⟩

theorem draw_lit {lo : List Oper} (A : List Chunk) (bl : List Nat) (hm : P.follows .mixedOrders = true) (k : DHold P w0 lo.toArray Q A bl lo.length (Array.replicate lo.length false) l L) :
    Hold w0 L ((Code.region id lo.toArray true).wp P Q (fr l)) := fun w hw => by
  have h1 := wpAny_noPanic _ _ _ _ (wpAny_of_U _ _ _ _ (k _ hw.drew))
  refine wp_region_any hm ?_
  rw [List.size_toArray]
  exact h1

theorem d_take (ht : takeB ops listed i = true) (ho : ops[i]? = some o) (hy : Yields P ops o v (fr l)) (k : DHold P w0 ops Q A bl fuel (listed.setIfInBounds i true) (setd l o.dst v) L) :
    DHold P w0 ops Q A bl (fuel + 1) listed l L := fun w hw => by
  simp only [takeB, Bool.and_eq_true] at ht
  refine wpAnyU_pure ho (Region.noSelect_spec ht.1) (fun _ _ _ h => h) fuel listed _ w (Region.free_spec ho ht.2.1) (by simpa using ht.2.2) hy ?_
  rw [fr_put]
  exact k w hw
theorem opAt (ho : nthP ops.toList i = some o) : ops[i]? = some o := by rw [← Array.getElem?_toList, nthP_eq]; exact ho
theorem d_pure (i : Nat) (ho : nthP ops.toList i = some o) (h : Pure P o l v) (ht : takeB ops listed i = true) (hg : wantL ops.toList l o.guard = true)
    (k : DHold P w0 ops Q A bl fuel (listed.setIfInBounds i true) (setd l o.dst v) L) : DHold P w0 ops Q A bl (fuel + 1) listed l L :=
  d_take ht (opAt ho) (.inl ⟨by rw [wanted_eq]; exact hg, fun w => by rw [fr_eval]; exact h w⟩) k
theorem d_skip (i : Nat) (ho : nthP ops.toList i = some o) (ht : takeB ops listed i = true) (hg : wantL ops.toList l o.guard = false)
    (k : DHold P w0 ops Q A bl fuel (listed.setIfInBounds i true) (setd l o.dst undef) L) : DHold P w0 ops Q A bl (fuel + 1) listed l L :=
  d_take ht (opAt ho) (.inr ⟨by rw [wanted_eq]; exact hg, rfl⟩) k
theorem d_mem (i : Nat) (ho : nthP ops.toList i = some o) (h : Sil P w0 A o l v) (hA : ∀ c ∈ A, c ∈ L) (ht : takeB ops listed i = true) (hb : waitB ops bl listed i = true) (hg : wantL ops.toList l o.guard = true)
    (k : DHold P w0 ops Q A bl fuel (listed.setIfInBounds i true) (setd l o.dst v) L) : DHold P w0 ops Q A bl (fuel + 1) listed l L := fun w hw => by
  simp only [takeB, Bool.and_eq_true] at ht
  refine wpAnyU_mem (opAt ho) (Region.noSelect_spec ht.1) (fun _ _ _ h => h) fuel listed _ w (Region.free_spec (opAt ho) ht.2.1) ?_ (by simpa using ht.2.2) (.inl ⟨by rw [wanted_eq]; exact hg, fun w' ⟨F, hF, hw'⟩ => by rw [fr_eval]; exact h F w' hF hw'⟩) ⟨L, hA, hw⟩ ?_
  · intro j hj hun hne
    have := List.all_eq_true.1 hb j (by simpa using hj)
    simp only [hun, Bool.false_or, Bool.or_eq_true, beq_iff_eq] at this
    exact this.resolve_left hne
  · rw [fr_put]
    exact k w hw
theorem d_op {R : World → Value → World → Prop} (i : Nat) (ho : nthP ops.toList i = some o) (hr : Region.ready .any ops listed = [i]) (hg : wantL ops.toList l o.guard = true) (h : ∀ w, St w0 L w → OpT P o l w (R w))
    (hS : ∀ w, St w0 L w → ∀ v w', R w v w' → bl.contains i = true ∨ Keeps w0 A w')
    (k : ∀ w, St w0 L w → ∀ v w', R w v w' → wpAnyU P ops (noPanic Q) (Keeps w0 A) (fun j => bl.contains j) fuel (listed.setIfInBounds i true) (fr (setd l o.dst v)) w') : DHold P w0 ops Q A bl (fuel + 1) listed l L := fun w hw => by
  refine ⟨fun h0 => (by rw [hr] at h0; cases h0), fun j hj => ?_⟩
  rw [hr] at hj
  simp at hj
  subst hj
  have ho' := opAt ho
  have hg' : Region.wanted o (yielded ops (fr l).tmps) = true := by rw [wanted_eq]; exact hg
  unfold wpOp
  simp only [ho', hg', if_true]
  refine .inl (h w hw _ _ fun v w' hR => ⟨fun hb _ => ?_, k w hw v w' hR⟩)
  rcases hS w hw v w' hR with h1 | h1
  · simp only [h1] at hb; cases hb
  · exact h1
theorem d_loud {ρ : Type} {ok : ρ → Prop} {val : ρ → Value} {D : ρ → List Chunk} (i : Nat) (ho : nthP ops.toList i = some o) (h : Loud P w0 L o l ok val D) (hA : ∀ c ∈ A, c ∈ L) (hr : Region.ready .any ops listed = [i]) (hg : wantL ops.toList l o.guard = true)
    (k : ∀ r, ok r → DHold P w0 ops Q A bl fuel (listed.setIfInBounds i true) (setd l o.dst (val r)) (D r ++ L)) : DHold P w0 ops Q A bl (fuel + 1) listed l L :=
  d_op i ho hr hg (fun w hw => h L w (fun _ h => h) hw) (fun _ _ _ _ ⟨r, _, _, hst⟩ => .inr ⟨_, fun c hc => List.mem_append_right _ (hA c hc), hst⟩) (fun _ _ v w' ⟨r, hr, hv, hst⟩ => by subst hv; exact k r hr w' hst)
theorem d_call (i : Nat) (ho : nthP ops.toList i = some o) (h : Loud P w0 L o l (fun _ : Unit => True) (fun _ => v) (fun _ => [])) (hA : ∀ c ∈ A, c ∈ L) (hr : Region.ready .any ops listed = [i]) (hg : wantL ops.toList l o.guard = true)
    (k : DHold P w0 ops Q A bl fuel (listed.setIfInBounds i true) (setd l o.dst v) L) : DHold P w0 ops Q A bl (fuel + 1) listed l L :=
  d_loud i ho h hA hr hg fun _ _ => k
theorem d_new {val : Nat → Value} {D : Nat → List Chunk} (i : Nat) (ho : nthP ops.toList i = some o) (h : Loud P w0 L o l (fun _ : Nat => True) val D) (hA : ∀ c ∈ A, c ∈ L) (hr : Region.ready .any ops listed = [i]) (hg : wantL ops.toList l o.guard = true)
    (k : ∀ b, DHold P w0 ops Q A bl fuel (listed.setIfInBounds i true) (setd l o.dst (val b)) (D b ++ L)) : DHold P w0 ops Q A bl (fuel + 1) listed l L :=
  d_loud i ho h hA hr hg fun b _ => k b
/-- What turns chunks that are there: A is kept. -/
theorem d_upd {ρ : Type} {ok : ρ → Prop} {val : ρ → Value} {L' : ρ → List Chunk} (i : Nat) (ho : nthP ops.toList i = some o) (h : Upd P w0 L o l ok val L') (hA : ∀ r, ∀ c ∈ A, c ∈ L' r) (hr : Region.ready .any ops listed = [i]) (hg : wantL ops.toList l o.guard = true)
    (k : ∀ r, ok r → DHold P w0 ops Q A bl fuel (listed.setIfInBounds i true) (setd l o.dst (val r)) (L' r)) : DHold P w0 ops Q A bl (fuel + 1) listed l L :=
  d_op i ho hr hg (fun w hw => h w hw) (fun _ _ _ _ ⟨r, _, _, hst⟩ => .inr ⟨_, hA r, hst⟩) (fun _ _ v w' ⟨r, hr, hv, hst⟩ => by subst hv; exact k r hr w' hst)
/-- What turns chunks that are there, and comes behind all that reads. -/
theorem d_last {ρ : Type} {ok : ρ → Prop} {val : ρ → Value} {L' : ρ → List Chunk} (i : Nat) (ho : nthP ops.toList i = some o) (h : Upd P w0 L o l ok val L') (hB : bl.contains i = true) (hr : Region.ready .any ops listed = [i]) (hg : wantL ops.toList l o.guard = true)
    (k : ∀ r, ok r → DHold P w0 ops Q A bl fuel (listed.setIfInBounds i true) (setd l o.dst (val r)) (L' r)) : DHold P w0 ops Q A bl (fuel + 1) listed l L :=
  d_op i ho hr hg (fun w hw => h w hw) (fun _ _ _ _ _ => .inl hB) (fun _ _ v w' ⟨r, hr, hv, hst⟩ => by subst hv; exact k r hr w' hst)
theorem d_done (hr : Region.ready .any ops listed = []) (k : Hold w0 L (Q .normal (fr l))) : DHold P w0 ops Q A bl fuel listed l L := fun w hw => by
  cases fuel with
  | zero => exact ⟨hr, k w hw⟩
  | succ n => exact ⟨fun _ => k w hw, fun j hj => by rw [hr] at hj; cases hj⟩
end
end Go.K
