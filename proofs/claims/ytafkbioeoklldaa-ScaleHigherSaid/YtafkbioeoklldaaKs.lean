/-
  Regions that draw their order, where several operations may come next.
  No conditions: plain lemmas over any program.
-/
import Derived.Test.YtafkbioeoklldaaKd
set_option linter.unusedSimpArgs false
set_option linter.unusedVariables false
namespace Go.K
open Go.RowKit
section
variable {P : Program} {w0 : World} {L A : List Chunk} {ops : Array Oper} {Q : Exit → Act → World → Prop} {l : List Value} {o : Oper} {v : Value} {id i fuel : Nat} {bl : List Nat} {listed : Array Bool}
/-- Number i comes next. -/
def DStep (P : Program) (w0 : World) (ops : Array Oper) (Q : Exit → Act → World → Prop) (A : List Chunk) (bl : List Nat) (fuel : Nat) (listed : Array Bool) (l : List Value) (L : List Chunk) (i : Nat) : Prop :=
  ∀ w, St w0 L w → wpOp P ops (noPanic Q) i (fun a' w' => (bl.contains i = false → Keeps w0 A w → Keeps w0 A w') ∧ wpAnyU P ops (noPanic Q) (Keeps w0 A) (fun j => bl.contains j) fuel (listed.setIfInBounds i true) a' w') (fr l) w
theorem d_two (i j : Nat) (hr : Region.ready .any ops listed = [i, j]) (h1 : DStep P w0 ops Q A bl fuel listed l L i) (h2 : DStep P w0 ops Q A bl fuel listed l L j) : DHold P w0 ops Q A bl (fuel + 1) listed l L := fun w hw => by
  refine ⟨fun h0 => (by rw [hr] at h0; cases h0), fun k hk => ?_⟩
  rw [hr] at hk
  simp at hk
  rcases hk with rfl | rfl
  · exact h1 w hw
  · exact h2 w hw
theorem d_three (i j m : Nat) (hr : Region.ready .any ops listed = [i, j, m]) (h1 : DStep P w0 ops Q A bl fuel listed l L i) (h2 : DStep P w0 ops Q A bl fuel listed l L j) (h3 : DStep P w0 ops Q A bl fuel listed l L m) : DHold P w0 ops Q A bl (fuel + 1) listed l L := fun w hw => by
  refine ⟨fun h0 => (by rw [hr] at h0; cases h0), fun k hk => ?_⟩
  rw [hr] at hk
  simp at hk
  rcases hk with rfl | rfl | rfl
  · exact h1 w hw
  · exact h2 w hw
  · exact h3 w hw
theorem s_op {R : World → Value → World → Prop} (i : Nat) (ho : nthP ops.toList i = some o) (hg : wantL ops.toList l o.guard = true) (h : ∀ w, St w0 L w → OpT P o l w (R w))
    (hS : ∀ w, St w0 L w → ∀ v w', R w v w' → bl.contains i = true ∨ Keeps w0 A w')
    (k : ∀ w, St w0 L w → ∀ v w', R w v w' → wpAnyU P ops (noPanic Q) (Keeps w0 A) (fun j => bl.contains j) fuel (listed.setIfInBounds i true) (fr (setd l o.dst v)) w') : DStep P w0 ops Q A bl fuel listed l L i := fun w hw => by
  have ho' := opAt ho
  have hg' : Region.wanted o (yielded ops (fr l).tmps) = true := by rw [wanted_eq]; exact hg
  unfold wpOp
  simp only [ho', hg', if_true]
  refine .inl (h w hw _ _ fun v w' hR => ⟨fun hb _ => ?_, k w hw v w' hR⟩)
  rcases hS w hw v w' hR with h1 | h1
  · simp only [h1] at hb; cases hb
  · exact h1
theorem s_loud {ρ : Type} {ok : ρ → Prop} {val : ρ → Value} {D : ρ → List Chunk} (i : Nat) (ho : nthP ops.toList i = some o) (h : Loud P w0 L o l ok val D) (hA : ∀ c ∈ A, c ∈ L) (_ : true = true) (hg : wantL ops.toList l o.guard = true)
    (k : ∀ r, ok r → DHold P w0 ops Q A bl fuel (listed.setIfInBounds i true) (setd l o.dst (val r)) (D r ++ L)) : DStep P w0 ops Q A bl fuel listed l L i :=
  s_op i ho hg (fun w hw => h L w (fun _ h => h) hw) (fun _ _ _ _ ⟨r, _, _, hst⟩ => .inr ⟨_, fun c hc => List.mem_append_right _ (hA c hc), hst⟩) (fun _ _ v w' ⟨r, hr, hv, hst⟩ => by subst hv; exact k r hr w' hst)
theorem s_call (i : Nat) (ho : nthP ops.toList i = some o) (h : Loud P w0 L o l (fun _ : Unit => True) (fun _ => v) (fun _ => [])) (hA : ∀ c ∈ A, c ∈ L) (hr : true = true) (hg : wantL ops.toList l o.guard = true)
    (k : DHold P w0 ops Q A bl fuel (listed.setIfInBounds i true) (setd l o.dst v) L) : DStep P w0 ops Q A bl fuel listed l L i :=
  s_loud i ho h hA hr hg fun _ _ => k
theorem s_new {val : Nat → Value} {D : Nat → List Chunk} (i : Nat) (ho : nthP ops.toList i = some o) (h : Loud P w0 L o l (fun _ : Nat => True) val D) (hA : ∀ c ∈ A, c ∈ L) (hr : true = true) (hg : wantL ops.toList l o.guard = true)
    (k : ∀ b, DHold P w0 ops Q A bl fuel (listed.setIfInBounds i true) (setd l o.dst (val b)) (D b ++ L)) : DStep P w0 ops Q A bl fuel listed l L i :=
  s_loud i ho h hA hr hg fun b _ => k b
theorem s_upd {ρ : Type} {ok : ρ → Prop} {val : ρ → Value} {L' : ρ → List Chunk} (i : Nat) (ho : nthP ops.toList i = some o) (h : Upd P w0 L o l ok val L') (hA : ∀ r, ∀ c ∈ A, c ∈ L' r) (_ : true = true) (hg : wantL ops.toList l o.guard = true)
    (k : ∀ r, ok r → DHold P w0 ops Q A bl fuel (listed.setIfInBounds i true) (setd l o.dst (val r)) (L' r)) : DStep P w0 ops Q A bl fuel listed l L i :=
  s_op i ho hg (fun w hw => h w hw) (fun _ _ _ _ ⟨r, _, _, hst⟩ => .inr ⟨_, hA r, hst⟩) (fun _ _ v w' ⟨r, hr, hv, hst⟩ => by subst hv; exact k r hr w' hst)
theorem s_last {ρ : Type} {ok : ρ → Prop} {val : ρ → Value} {L' : ρ → List Chunk} (i : Nat) (ho : nthP ops.toList i = some o) (h : Upd P w0 L o l ok val L') (hB : bl.contains i = true) (_ : true = true) (hg : wantL ops.toList l o.guard = true)
    (k : ∀ r, ok r → DHold P w0 ops Q A bl fuel (listed.setIfInBounds i true) (setd l o.dst (val r)) (L' r)) : DStep P w0 ops Q A bl fuel listed l L i :=
  s_op i ho hg (fun w hw => h w hw) (fun _ _ _ _ _ => .inl hB) (fun _ _ v w' ⟨r, hr, hv, hst⟩ => by subst hv; exact k r hr w' hst)
theorem draw_take {lo : List Oper} (m : Nat) (bl : List Nat) (hm : P.follows .mixedOrders = true) (k : DHold P w0 lo.toArray Q (L.take m) bl lo.length (Array.replicate lo.length false) l L) : Hold w0 L ((Code.region id lo.toArray true).wp P Q (fr l)) := draw_lit (L.take m) bl hm k
end
end Go.K
