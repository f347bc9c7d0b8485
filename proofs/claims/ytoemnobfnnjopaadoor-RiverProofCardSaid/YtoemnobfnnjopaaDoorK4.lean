/-
  Plain lemmas and plain functions, several texts joined.
  Conditions stand in each theorem.
-/
import Derived.Test.YtoemnobfnnjopaaDoorK2
import Derived.WideKeyMaps
import Derived.DeepKeys4
import Derived.Carry
import Derived.Test.YtoemnobfnnjopaaDoorK1
set_option linter.unusedSimpArgs false
set_option linter.unusedVariables false
/-
  Maps that a call makes and counts in.
  No conditions: plain lemmas over any program.
-/
namespace Go.K
open Go.RowKit
/-- Block b is a map of ints with these keys; bo: an entry that was just found. -/
def mp (b : Nat) (bo : Option Nat) (ks : List Value) : Chunk where
  foot := fun k => k = b
  holds := fun w => ∃ es clock, w.heap[b]? = some (.map es clock) ∧ es.toList.map (·.key) = ks ∧ (es.toList.map (·.born)).Nodup ∧ (∀ e ∈ es.toList, e.born < clock) ∧ (∀ e ∈ es.toList, ∃ n, e.val = .int .i64 n) ∧ ∀ x, bo = some x → ∃ e ∈ es.toList, e.born = x
  loc := fun w w' h hk => by
    obtain ⟨es, clock, h1, h2⟩ := h
    exact ⟨es, clock, (hk b rfl).trans h1, h2⟩
  live := fun _ k h hk => by
    subst hk
    obtain ⟨es, clock, h1, _⟩ := h
    exact lt_of_some h1
theorem grownBy_setMap (w : World) (b : Nat) (o : Obj) : w.grownBy { w with heap := w.heap.setIfInBounds b o } (some b) :=
  ⟨rfl, rfl, rfl, by simp, fun k _ hne => by
    have h : ¬ b = k := fun e => hne (by rw [e])
    simp [Array.getElem?_setIfInBounds, h]⟩
theorem map_set {w : World} {b : Nat} {o o' : Obj} (h : w.heap[b]? = some o) : ({ w with heap := w.heap.setIfInBounds b o' } : World).heap[b]? = some o' := by
  have := lt_of_some h
  simp [Array.getElem?_setIfInBounds, this]
section
variable {P : Program} {w0 : World} {L L' : List Chunk} {l : List Value} {d : Option Tmp} {ty : TypeId} {ps : String} {af : Array Edge} {g : Option (Nat × Bool)}
theorem mkMap {t : TypeId} : Loud P w0 L ⟨d, .makeMap t none, ty, ps, af, g⟩ l (fun _ : Nat => True) (fun b => .map (some b)) (fun b => [mp b none []]) := fun F w _ hw => by
  refine OpT.of_run (w' := w.alloc (.map #[] 0)) ?_ ⟨w.heap.size, trivial, rfl, hw.add (D := [mp w.heap.size none []]) ((Below.refl _ _).alloc (Nat.le_refl _) _) (own_one ⟨#[], 0, heap_alloc_new w _, rfl, by simp, by simp, by simp, by simp⟩ (fun k hk => by cases hk; exact Nat.le_refl _))⟩
  have := run_makeMap (P := P) t w
  simp [execOp, Sem.run_bind, this]
/-- The map's type is of such keys, with ints. -/
structure MapT (P : Program) (t kt : TypeId) : Prop where
  u : ∃ e, P.underlying t = some (.map kt e) ∧ (∀ w, (zeroValue e).run P w = .ok (.int .i64 0) w)
  law : WideMaps.KeyLaw P kt
variable {t kt b : Nat} {ks : List Value} {key : Value} {bo : Option Nat}
theorem lookup_mp {x y : Operand} (hM : MapT P t kt) (hx : ev l x = .map (some b)) (hy : ev l y = key) (hm : mp b bo ks ∈ L) (hk : ∃ q, keyOf P kt key = some q) (hks : ∀ v ∈ ks, ∃ q, keyOf P kt v = some q) :
    Loud P w0 L ⟨d, .lookup t x y false, ty, ps, af, g⟩ l (fun _ : Int => True) (fun n => .int .i64 n) (fun _ => []) := fun F w hF hw => by
  obtain ⟨es, clock, h1, h2, h3, h4, h5, h6⟩ := (hw.2.1 _ (hF _ hm)).1
  obtain ⟨e, hu, hz⟩ := hM.u
  obtain ⟨q, hq⟩ := hk
  have hall : ∀ x ∈ es.toList, ∃ l, keyOf P kt x.key = some l := fun x hx => hks _ (by rw [← h2]; exact List.mem_map_of_mem hx)
  have hc := hM.law.check w es.isEmpty hq
  rcases hM.law.find w hq es.toList hall with ⟨hf, _⟩ | ⟨j, e0, hf, he, _⟩
  · refine OpT.of_run (v := .int .i64 0) (w' := w) ?_ ⟨0, trivial, rfl, hw⟩
    simp [execOp, hx, hy, Instr.lookup, run_underlying hu, MapKept.run_getObj_map h1, hc, hf, hz, Result.andThen]
  · obtain ⟨n, hn⟩ := h5 e0 (List.mem_of_getElem? he)
    refine OpT.of_run (v := .int .i64 n) (w' := w) ?_ ⟨n, trivial, rfl, hw⟩
    simp [execOp, hx, hy, Instr.lookup, run_underlying hu, MapKept.run_getObj_map h1, hc, hf, hn, Result.andThen]
/-- A set of keys, with one more. -/
def insK {E : Type} [DecidableEq E] (ks : List E) (k : E) : List E := if k ∈ ks then ks else ks ++ [k]
theorem modify_same {es : Array MapEntry} {j : Nat} {e0 : MapEntry} {key : Value} (he : es.toList[j]? = some e0) (hk : e0.key = key) : es.modify j (fun e => { e with key := key }) = es := by
  apply Array.ext'
  apply List.ext_getElem?
  intro i
  simp only [Array.toList_modify, List.getElem?_modify]
  split
  · rename_i h; subst h
    rw [he]; cases e0; simp at hk; simp [hk]
  · simp
theorem mapEntry_mp {x y : Operand} {ks' : List Value} {M' : Nat → List Chunk} (hM : MapT P t kt) (hx : ev l x = .map (some b)) (hy : ev l y = key) (hk : ∃ q, keyOf P kt key = some q) (hks : ∀ v ∈ ks, ∃ q, keyOf P kt v = some q)
    (hks' : (key ∈ ks → ks' = ks) ∧ (key ∉ ks → ks' = ks ++ [key])) (hr : ∀ n, Rep (mp b none ks) (mp b (some n) ks') L (M' n)) :
    Upd P w0 L ⟨d, .mapEntry t x y, ty, ps, af, g⟩ l (fun _ : Int × Nat => True) (fun r => .tuple #[.int .i64 r.1, .int .i64 r.2]) (fun r => M' r.2) := fun w hw => by
  obtain ⟨es, clock, h1, h2, h3, h4, h5, h6⟩ := (hw.2.1 _ (hr 0).mem).1
  obtain ⟨e, hu, hz⟩ := hM.u
  obtain ⟨q, hq⟩ := hk
  have hall : ∀ x ∈ es.toList, ∃ l, keyOf P kt x.key = some l := fun x hx => hks _ (by rw [← h2]; exact List.mem_map_of_mem hx)
  have hc := hM.law.check w false hq
  have hst := hM.law.stays w hq
  rcases hM.law.find w hq es.toList hall with ⟨hf, hne⟩ | ⟨j, e0, hf, he, hkey⟩
  · have hnk : key ∉ ks := fun h => by
      rw [← h2] at h
      obtain ⟨e1, he1, hh⟩ := List.mem_map.1 h
      exact hne e1 he1 hh
    refine OpT.of_run (v := .tuple #[.int .i64 0, .int .i64 clock]) (w' := { w with heap := w.heap.setIfInBounds b (.map (es.push ⟨key, .int .i64 0, clock⟩) (clock + 1)) }) ?_ ⟨(0, clock), trivial, rfl, ?_⟩
    · simp [execOp, hx, hy, Instr.mapEntry, run_underlying hu, MapKept.run_getObj_map h1, hc, hf, hz, MapKept.run_setObj_map _ h1, goInt, Result.andThen]
    · refine hw.upd (hr clock) (grownBy_setMap w b _) (fun k hk => by cases hk; rfl) ⟨_, _, map_set h1, ?_, ?_, ?_, ?_, ?_⟩ (fun k hk => .inl hk)
      · rw [hks'.2 hnk, ← h2]; simp
      · simp only [Array.toList_push, List.map_append, List.map_cons, List.map_nil]
        refine List.nodup_append.2 ⟨h3, by simp, fun a ha c hc he => ?_⟩
        obtain ⟨e1, he1, rfl⟩ := List.mem_map.1 ha
        simp at hc
        have := h4 e1 he1
        omega
      · intro e1 he1
        simp only [Array.toList_push, List.mem_append, List.mem_singleton] at he1
        rcases he1 with he1 | rfl
        · have := h4 e1 he1; omega
        · simp
      · intro e1 he1
        simp only [Array.toList_push, List.mem_append, List.mem_singleton] at he1
        rcases he1 with he1 | rfl
        · exact h5 e1 he1
        · exact ⟨0, rfl⟩
      · intro x hx
        cases hx
        exact ⟨⟨key, .int .i64 0, clock⟩, by simp, rfl⟩
  · obtain ⟨n, hn⟩ := h5 e0 (List.mem_of_getElem? he)
    have hmk : key ∈ ks := by rw [← h2, ← hkey]; exact List.mem_map_of_mem (List.mem_of_getElem? he)
    have he' : es[j]? = some e0 := by simpa using he
    have hm2 : es.modify j (fun e => { e with key := key }) = es := modify_same he hkey
    refine OpT.of_run (v := .tuple #[.int .i64 n, .int .i64 e0.born]) (w' := { w with heap := w.heap.setIfInBounds b (.map es clock) }) ?_ ⟨(n, e0.born), trivial, rfl, ?_⟩
    · simp [execOp, hx, hy, Instr.mapEntry, run_underlying hu, MapKept.run_getObj_map h1, hc, hf, hn, he', hkey, hst, hm2, MapKept.run_setObj_map _ h1, goInt, Result.andThen]
    · refine hw.upd (hr e0.born) (grownBy_setMap w b _) (fun k hk => by cases hk; rfl) ⟨_, _, map_set h1, ?_, h3, h4, h5, ?_⟩ (fun k hk => .inl hk)
      · rw [hks'.1 hmk, h2]
      · intro x hx
        cases hx
        exact ⟨e0, List.mem_of_getElem? he, rfl⟩
theorem entryStore_mp {x y z : Operand} {n : Nat} {m : Int} (hx : ev l x = .map (some b)) (hy : ev l y = .int .i64 n) (hz : ev l z = .int .i64 m) (hr : Rep (mp b (some n) ks) (mp b none ks) L L') :
    Upd P w0 L ⟨d, .entryStore t x y z, ty, ps, af, g⟩ l (fun _ : Unit => True) (fun _ => undef) (fun _ => L') := fun w hw => by
  obtain ⟨es, clock, h1, h2, h3, h4, h5, h6⟩ := (hw.2.1 _ hr.mem).1
  obtain ⟨e0, he0, hb0⟩ := h6 n rfl
  cases hf : es.findIdx? (fun e => (e.born : Int) == (n : Int)) with
  | none =>
    have := Array.findIdx?_eq_none_iff.1 hf e0 (by simpa using he0)
    simp [hb0] at this
  | some j =>
    have hm : ∀ i, ((es.modify j fun e => { e with val := .int .i64 m }).toList)[i]? = (es.toList[i]?).map fun e => if j = i then { e with val := .int .i64 m } else e := fun i => by
      simp only [Array.toList_modify, List.getElem?_modify]
      split <;> rename_i h <;> simp [h]
    have hmem : ∀ e1 ∈ (es.modify j fun e => { e with val := .int .i64 m }).toList, ∃ e2 ∈ es.toList, e1.born = e2.born ∧ e1.key = e2.key ∧ (e1.val = e2.val ∨ e1.val = .int .i64 m) := fun e1 he1 => by
      obtain ⟨i, hi⟩ := List.getElem?_of_mem he1
      rw [hm] at hi
      obtain ⟨e2, h7, rfl⟩ := Option.map_eq_some_iff.1 hi
      refine ⟨e2, List.mem_of_getElem? h7, ?_⟩
      split <;> simp
    have hmap : ∀ {T : Type} (f : MapEntry → T), (∀ e v, f { e with val := v } = f e) → (es.modify j fun e => { e with val := .int .i64 m }).toList.map f = es.toList.map f := fun f hf => by
      apply List.ext_getElem?
      intro i
      rw [List.getElem?_map, hm, List.getElem?_map, Option.map_map]
      congr 1
      funext e
      simp only [Function.comp]
      split
      · exact hf _ _
      · rfl
    refine OpT.of_skip (w' := { w with heap := w.heap.setIfInBounds b (.map (es.modify j fun e => { e with val := .int .i64 m }) clock) }) ?_ ⟨(), trivial, rfl, ?_⟩
    · simp [execOp, hx, hy, hz, Instr.entryStore, MapKept.run_getObj_map h1, asInt, asIntOf, hf, MapKept.run_setObj_map _ h1, Result.andThen]
    · refine hw.upd hr (grownBy_setMap w b _) (fun k hk => by cases hk; rfl) ⟨_, _, map_set h1, ?_, ?_, ?_, ?_, by simp⟩ (fun k hk => .inl hk)
      · rw [hmap _ (fun _ _ => rfl), h2]
      · rw [hmap _ (fun _ _ => rfl)]; exact h3
      · intro e1 he1
        obtain ⟨e2, h7, h8, _⟩ := hmem e1 he1
        rw [h8]; exact h4 e2 h7
      · intro e1 he1
        obtain ⟨e2, h7, _, _, h8⟩ := hmem e1 he1
        rcases h8 with h8 | h8
        · obtain ⟨q, hq⟩ := h5 e2 h7
          exact ⟨q, h8.trans hq⟩
        · exact ⟨m, h8⟩
theorem len_mp {t e : TypeId} {x : Operand} (ht : P.underlying t = some (.map kt e)) (hx : ev l x = .map (some b)) (hm : mp b bo ks ∈ L) :
    Sil P w0 L ⟨d, .call { callee := .builtin .len, args := #[x], argTypes := #[t] }, ty, ps, af, g⟩ l (.int .i64 ks.length) := fun F w hF hw => by
  obtain ⟨es, clock, h1, h2, _⟩ := (hw.2.1 _ (hF _ hm)).1
  have h3 : es.size = ks.length := by rw [← h2]; simp
  simp [execOp, resolve, invoke, builtin, hx, Builtin.len_, Sem.run_bind, run_underlying ht w, MapKept.run_getObj_map h1, goInt, h3]
end
end Go.K

/-
  Regions that draw their order, where several operations may come next.
  No conditions: plain lemmas over any program.
-/
namespace Go.K
open Go.RowKit
section
variable {P : Program} {w0 : World} {L A : List Chunk} {ops : Array Oper} {Q : Exit → Act → World → Prop} {l : List Value} {o : Oper} {v : Value} {id i fuel : Nat} {bl : List Nat} {listed : Array Bool}
/-- Number i comes next. -/
def DStep (P : Program) (w0 : World) (ops : Array Oper) (Q : Exit → Act → World → Prop) (A : List Chunk) (bl : List Nat) (fuel : Nat) (listed : Array Bool) (l : List Value) (L : List Chunk) (i : Nat) : Prop :=
  ∀ w, St w0 L w → wpOp P ops (noPanic Q) i (fun a' w' => (bl.contains i = false → Keeps w0 A w → Keeps w0 A w') ∧ wpAnyU P ops (noPanic Q) (Keeps w0 A) (fun j => bl.contains j) fuel (listed.setIfInBounds i true) a' w') (fr l) w
theorem d_two (i j : Nat) (hr : Region.ready .any ops listed = [i, j]) (h1 : DStep P w0 ops Q A bl fuel listed l L i) (h2 : DStep P w0 ops Q A bl fuel listed l L j) : DHold P w0 ops Q A bl (fuel + 1) listed l L := fun w hw => by
  refine ⟨fun h0 => (by rw [hr] at h0; cases h0), fun k hk => ?_⟩
  rw [hr] at hk
  simp at hk
  rcases hk with rfl | rfl
  · exact h1 w hw
  · exact h2 w hw
theorem d_three (i j m : Nat) (hr : Region.ready .any ops listed = [i, j, m]) (h1 : DStep P w0 ops Q A bl fuel listed l L i) (h2 : DStep P w0 ops Q A bl fuel listed l L j) (h3 : DStep P w0 ops Q A bl fuel listed l L m) : DHold P w0 ops Q A bl (fuel + 1) listed l L := fun w hw => by
  refine ⟨fun h0 => (by rw [hr] at h0; cases h0), fun k hk => ?_⟩
  rw [hr] at hk
  simp at hk
  rcases hk with rfl | rfl | rfl
  · exact h1 w hw
  · exact h2 w hw
  · exact h3 w hw
theorem s_op {R : World → Value → World → Prop} (i : Nat) (ho : nthP ops.toList i = some o) (hg : wantL ops.toList l o.guard = true) (h : ∀ w, St w0 L w → OpT P o l w (R w))
    (hS : ∀ w, St w0 L w → ∀ v w', R w v w' → bl.contains i = true ∨ Keeps w0 A w')
    (k : ∀ w, St w0 L w → ∀ v w', R w v w' → wpAnyU P ops (noPanic Q) (Keeps w0 A) (fun j => bl.contains j) fuel (listed.setIfInBounds i true) (fr (setd l o.dst v)) w') : DStep P w0 ops Q A bl fuel listed l L i := fun w hw => by
  have ho' := opAt ho
  have hg' : Region.wanted o (yielded ops (fr l).tmps) = true := by rw [wanted_eq]; exact hg
  unfold wpOp
  simp only [ho', hg', if_true]
  refine .inl (h w hw _ _ fun v w' hR => ⟨fun hb _ => ?_, k w hw v w' hR⟩)
  rcases hS w hw v w' hR with h1 | h1
  · simp only [h1] at hb; cases hb
  · exact h1
theorem s_loud {ρ : Type} {ok : ρ → Prop} {val : ρ → Value} {D : ρ → List Chunk} (i : Nat) (ho : nthP ops.toList i = some o) (h : Loud P w0 L o l ok val D) (hA : ∀ c ∈ A, c ∈ L) (_ : true = true) (hg : wantL ops.toList l o.guard = true)
    (k : ∀ r, ok r → DHold P w0 ops Q A bl fuel (listed.setIfInBounds i true) (setd l o.dst (val r)) (D r ++ L)) : DStep P w0 ops Q A bl fuel listed l L i :=
  s_op i ho hg (fun w hw => h L w (fun _ h => h) hw) (fun _ _ _ _ ⟨r, _, _, hst⟩ => .inr ⟨_, fun c hc => List.mem_append_right _ (hA c hc), hst⟩) (fun _ _ v w' ⟨r, hr, hv, hst⟩ => by subst hv; exact k r hr w' hst)
theorem s_call (i : Nat) (ho : nthP ops.toList i = some o) (h : Loud P w0 L o l (fun _ : Unit => True) (fun _ => v) (fun _ => [])) (hA : ∀ c ∈ A, c ∈ L) (hr : true = true) (hg : wantL ops.toList l o.guard = true)
    (k : DHold P w0 ops Q A bl fuel (listed.setIfInBounds i true) (setd l o.dst v) L) : DStep P w0 ops Q A bl fuel listed l L i :=
  s_loud i ho h hA hr hg fun _ _ => k
theorem s_new {val : Nat → Value} {D : Nat → List Chunk} (i : Nat) (ho : nthP ops.toList i = some o) (h : Loud P w0 L o l (fun _ : Nat => True) val D) (hA : ∀ c ∈ A, c ∈ L) (hr : true = true) (hg : wantL ops.toList l o.guard = true)
    (k : ∀ b, DHold P w0 ops Q A bl fuel (listed.setIfInBounds i true) (setd l o.dst (val b)) (D b ++ L)) : DStep P w0 ops Q A bl fuel listed l L i :=
  s_loud i ho h hA hr hg fun b _ => k b
theorem s_upd {ρ : Type} {ok : ρ → Prop} {val : ρ → Value} {L' : ρ → List Chunk} (i : Nat) (ho : nthP ops.toList i = some o) (h : Upd P w0 L o l ok val L') (hA : ∀ r, ∀ c ∈ A, c ∈ L' r) (_ : true = true) (hg : wantL ops.toList l o.guard = true)
    (k : ∀ r, ok r → DHold P w0 ops Q A bl fuel (listed.setIfInBounds i true) (setd l o.dst (val r)) (L' r)) : DStep P w0 ops Q A bl fuel listed l L i :=
  s_op i ho hg (fun w hw => h w hw) (fun _ _ _ _ ⟨r, _, _, hst⟩ => .inr ⟨_, hA r, hst⟩) (fun _ _ v w' ⟨r, hr, hv, hst⟩ => by subst hv; exact k r hr w' hst)
theorem s_last {ρ : Type} {ok : ρ → Prop} {val : ρ → Value} {L' : ρ → List Chunk} (i : Nat) (ho : nthP ops.toList i = some o) (h : Upd P w0 L o l ok val L') (hB : bl.contains i = true) (_ : true = true) (hg : wantL ops.toList l o.guard = true)
    (k : ∀ r, ok r → DHold P w0 ops Q A bl fuel (listed.setIfInBounds i true) (setd l o.dst (val r)) (L' r)) : DStep P w0 ops Q A bl fuel listed l L i :=
  s_op i ho hg (fun w hw => h w hw) (fun _ _ _ _ _ => .inl hB) (fun _ _ v w' ⟨r, hr, hv, hst⟩ => by subst hv; exact k r hr w' hst)
theorem draw_take {lo : List Oper} (m : Nat) (bl : List Nat) (hm : P.follows .mixedOrders = true) (k : DHold P w0 lo.toArray Q (L.take m) bl lo.length (Array.replicate lo.length false) l L) : Hold w0 L ((Code.region id lo.toArray true).wp P Q (fr l)) := draw_lit (L.take m) bl hm k
end
end Go.K

/-
  Ways that come together again: what stands behind them is walked once.
  No conditions: plain lemmas over any program.
-/
namespace Go.K
open Go.RowKit
section
variable {P : Program} {w0 : World} {L : List Chunk} {l : List Value} {x y : Code} {Q : Exit → Act → World → Prop}
/-- At its normal end the state is told by J alone; other exits are as they were. -/
def joinQ (w0 : World) (l : List Value) (wi wr : List Nat) (J : List Value → List Chunk → Prop) (Q : Exit → Act → World → Prop) : Exit → Act → World → Prop
  | .normal, a, w => ∃ vi vr L', a = fr (setF vr (setM l wi vi) wr) ∧ J vi L' ∧ St w0 L' w
  | e, a, w => Q e a w
theorem joinW (wi wr : List Nat) (J : List Value → List Chunk → Prop) (k1 : Hold w0 L (x.wp P (joinQ w0 l wi wr J Q) (fr l)))
    (k2 : ∀ vi vr L', J vi L' → Hold w0 L' (Q .normal (fr (setF vr (setM l wi vi) wr)))) : Hold w0 L (x.wp P Q (fr l)) := fun w hw =>
  wp_mono (k1 w hw) (fun e a' w' hq => by
    cases e with
    | normal => obtain ⟨vi, vr, L', rfl, hJ, hst⟩ := hq; exact k2 vi vr L' hJ w' hst
    | _ => exact hq)
theorem seqJ (wi wr : List Nat) (J : List Value → List Chunk → Prop) (k1 : Hold w0 L (x.wp P (joinQ w0 l wi wr J (Exit.then (y.wp P Q) Q)) (fr l)))
    (k2 : ∀ vi vr L', J vi L' → Hold w0 L' (y.wp P Q (fr (setF vr (setM l wi vi) wr)))) : Hold w0 L ((Code.seq x y).wp P Q (fr l)) :=
  seq (joinW wi wr J k1 k2)
theorem join_here {l0 : List Value} {wi wr : List Nat} {J : List Value → List Chunk → Prop} {L' : List Chunk} (vi : List Value) (hJ : J vi L') (hs : ∀ w, St w0 L w → St w0 L' w) (he : l = setF (nth l) (setM l0 wi vi) wr) :
    Hold w0 L (joinQ w0 l0 wi wr J Q .normal (fr l)) := fun w hw => ⟨vi, nth l, L', by rw [← he], hJ, hs w hw⟩
theorem join_exit {l0 : List Value} {wi wr : List Nat} {J : List Value → List Chunk → Prop} {id : Nat} (k : Hold w0 L (Q (.exit id) (fr l))) : Hold w0 L (joinQ w0 l0 wi wr J Q (.exit id) (fr l)) := k
theorem join_ret {l0 : List Value} {wi wr : List Nat} {J : List Value → List Chunk → Prop} (k : Hold w0 L (Q .ret (fr l))) : Hold w0 L (joinQ w0 l0 wi wr J Q .ret (fr l)) := k
theorem st_sub {L' : List Chunk} (hs : List.Sublist L' L) : ∀ w, St w0 L w → St w0 L' w := fun _ h => h.sub hs
theorem st_perm {L' : List Chunk} (hp : L.Perm L') : ∀ w, St w0 L w → St w0 L' w := fun _ h => h.perm hp
theorem st_swap {c d : Chunk} : ∀ w, St w0 (c :: d :: L) w → St w0 (d :: c :: L) w := st_perm (List.Perm.swap _ _ _)
theorem st_swap1 {a c d : Chunk} : ∀ w, St w0 (a :: c :: d :: L) w → St w0 (a :: d :: c :: L) w := st_perm (.cons _ (List.Perm.swap _ _ _))
theorem st_swap2 {a b c d : Chunk} : ∀ w, St w0 (a :: b :: c :: d :: L) w → St w0 (a :: b :: d :: c :: L) w := st_perm (.cons _ (.cons _ (List.Perm.swap _ _ _)))
end
end Go.K

/-
  Slices of slices, in regions that draw their order.
  No conditions: plain lemmas over any program.
-/
namespace Go.K
open Go.RowKit
section
variable {P : Program} {w0 : World} {L A' M : List Chunk} {ops : Array Oper} {Q : Exit → Act → World → Prop} {l : List Value} {id fuel : Nat} {bl : List Nat} {listed : Array Bool} {d : Option Tmp} {ty : TypeId} {ps : String} {af : Array Edge} {g : Option (Nat × Bool)}
theorem d_blk_row0 {b t size : Nat} (k : DHold P w0 ops Q A' bl fuel listed l (row (.slice (some ⟨b, 0, none⟩) 0 0) t size 0 [] :: L)) : DHold P w0 ops Q A' bl fuel listed l (blk b t [] :: L) :=
  blk_row0 (G := fun w => wpAnyU P ops (noPanic Q) (Keeps w0 A') (fun j => bl.contains j) fuel listed (fr l) w) k
theorem d_slo {E : Type} {t et size c : Nat} {x y : Operand} {A : Option Addr} {k : IntKind} {z : Int} {e : E → List Value} {xs : List E} (i m : Nat) (ho : nthP ops.toList i = some ⟨d, .slice t x (some y) none none, ty, ps, af, g⟩) (h : Sl w0 M A size e xs) (hs : sl P t = some (et, size))
    (hx : ev l x = .slice A xs.length c) (hy : ev l y = .int k z) (hz : z = (m : Int)) (h1 : m ≤ xs.length) (h2 : xs.length ≤ c) (htk : takeB ops listed i = true) (hg : wantL ops.toList l g = true)
    (kk : ∀ B, Sl w0 M B size e (xs.drop m) → DHold P w0 ops Q A' bl fuel (listed.setIfInBounds i true) (setd l d (.slice B (xs.drop m).length (c - m))) L) : DHold P w0 ops Q A' bl (fuel + 1) listed l L := by
  obtain ⟨B, hp, hB⟩ := slice_lo (d := d) (ty := ty) (ps := ps) (af := af) (g := g) m h hs hx hy hz h1 h2
  exact d_pure i ho hp htk hg (kk B hB)
/-- What an owned row tells of its slice. -/
theorem use_rowc {A : Option Addr} {n c size : Nat} {t : TypeId} {ys : List Value} {G : World → Prop} (hm : row (.slice A n c) t size n ys ∈ L) (k : (n = 0 ∨ ∃ b, A = some ⟨b, 0, none⟩) → n ≤ c → Hold w0 L G) : Hold w0 L G := fun w hw => by
  have ho : w.ownsRow 0 t size (.slice A n c) n ys := (hw.2.1 _ hm).1
  refine k ?_ ?_ w hw
  · rcases Nat.eq_zero_or_pos n with h0 | h0
    · exact .inl h0
    · obtain ⟨b, cap, hv, _⟩ := ho.form h0
      refine .inr ⟨b, ?_⟩
      injection hv
  · rcases ho.2 with ⟨h, hn⟩ | ⟨gg, cap, cur, h, _, _, h2, _⟩
    · omega
    · injection h with _ _ h; omega
end
end Go.K

/-
  Slices of slices of ints: the inner rows as one part of memory.
  No conditions: plain lemmas over any program.
-/
namespace Go.K
open Go.RowKit
def eV (v : Value) : List Value := [v]
theorem eV_flat : ∀ vs : List Value, vs.flatMap eV = vs
  | [] => rfl
  | v :: vs => by simp [eV, eV_flat vs]
theorem cell_same {w w' : World} {p : Addr} (h : w'.heap[p.block]? = w.heap[p.block]?) : w'.cell? p = w.cell? p := by
  simp only [World.cell?, h]
/-- The values are slices of these lists; what they lead to lies in blocks of F. -/
def inn (F : Nat → Prop) (vs : List Value) (zs : List (List Int)) : Chunk where
  foot := F
  holds := fun w => (∀ k, F k → k < w.heap.size) ∧ vs.length = zs.length ∧ ∀ (i : Nat) z, zs[i]? = some z → ∃ A c, vs[i]? = some (.slice A z.length c) ∧ ∀ (j : Nat) u, z[j]? = some u → ∃ a, A = some a ∧ F a.block ∧ w.cell? (a.add j) = some (.int .i64 u)
  loc := fun w w' h hk => by
    refine ⟨fun k hF => ?_, h.2.1, fun i z hz => ?_⟩
    · have h1 := h.1 k hF
      have h2 := hk k hF
      rcases Nat.lt_or_ge k w'.heap.size with h3 | h3
      · exact h3
      · rw [Array.getElem?_eq_none h3, Array.getElem?_eq_getElem h1] at h2; cases h2
    · obtain ⟨A, c, hv, hc⟩ := h.2.2 i z hz
      refine ⟨A, c, hv, fun j u hu => ?_⟩
      obtain ⟨a, ha, hF, hcell⟩ := hc j u hu
      refine ⟨a, ha, hF, ?_⟩
      rw [cell_same (w := w) (w' := w') (p := a.add j) (by rw [addr_block]; exact hk _ hF)]; exact hcell
  live := fun w k h hk => h.1 k hk
section
variable {w0 : World} {L : List Chunk} {G : World → Prop}
theorem blk_row {b t n size : Nat} {xs : List Value} (hl : xs.length = n * size) (hn : n ≤ maxLen) (k : Hold w0 (row (.slice (some ⟨b, 0, none⟩) n n) t size n xs :: L) G) : Hold w0 (blk b t xs :: L) G := fun w hw => by
  refine k w ⟨hw.1, fun c hc => ?_, ?_⟩
  · rcases List.mem_cons.1 hc with rfl | hc
    · have h := hw.2.1 (blk b t xs) (by simp)
      exact ⟨⟨hl, .inr ⟨b, n, xs.toArray, rfl, Nat.zero_le _, h.1, Nat.le_refl _, hn, by simpa using hl, by simp [← hl]⟩⟩, fun k hk => h.2 k (by
        have : b = k := by simpa [row, Value.ownBlock] using hk
        exact this.symm)⟩
    · exact hw.2.1 c (List.mem_cons_of_mem _ hc)
  · have h := List.pairwise_cons.1 hw.2.2
    exact List.pairwise_cons.2 ⟨fun c hc k hk => h.1 c hc k (by
        have : b = k := by simpa [row, Value.ownBlock] using hk
        exact this.symm), h.2⟩
/-- An owned row of ints as an inner row. -/
theorem row_inn {A : Option Addr} {c t : Nat} {xs : List Int} (hA : xs.length = 0 ∨ ∃ b, A = some ⟨b, 0, none⟩) (k : Hold w0 (inn (fun k => (Value.slice A xs.length c).ownBlock = some k) [.slice A xs.length c] [xs] :: L) G) : Hold w0 (row (.slice A xs.length c) t 1 xs.length (xs.flatMap eI) :: L) G := fun w hw => by
  have h := hw.2.1 _ (List.mem_cons_self)
  have hrd : Rd w A 1 eI xs := Rd.own hw (List.mem_cons_self) hA (fun _ => rfl) (by decide)
  refine k w ⟨hw.1, fun d hd => ?_, ?_⟩
  · rcases List.mem_cons.1 hd with rfl | hd
    · refine ⟨⟨fun k hk => (row (.slice A xs.length c) t 1 xs.length (xs.flatMap eI)).live w k h.1 hk, rfl, fun i z hz => ?_⟩, h.2⟩
      cases i with
      | zero =>
        simp at hz; subst hz
        refine ⟨A, c, rfl, fun j u hu => ?_⟩
        obtain ⟨a, ha, _, hc⟩ := hrd j u hu
        refine ⟨a, ha, by subst ha; rfl, ?_⟩
        have := hc 0 (.int .i64 u) rfl
        rw [Nat.mul_one, addr_add0] at this
        exact this
      | succ i => simp at hz
    · exact hw.2.1 d (List.mem_cons_of_mem _ hd)
  · have hp := List.pairwise_cons.1 hw.2.2
    exact List.pairwise_cons.2 ⟨fun d hd k hk => hp.1 d hd k hk, hp.2⟩
theorem inn_none (vs : List Value) (zs : List (List Int)) (h : vs.length = zs.length) (hz : ∀ (i : Nat) z, zs[i]? = some z → z = [] ∧ ∃ A c, vs[i]? = some (.slice A 0 c)) (k : Hold w0 (inn (fun _ => False) vs zs :: L) G) : Hold w0 L G := fun w hw => by
  refine k w ⟨hw.1, fun d hd => ?_, ?_⟩
  · rcases List.mem_cons.1 hd with rfl | hd
    · refine ⟨⟨fun _ h => h.elim, h, fun i z hi => ?_⟩, fun _ h => h.elim⟩
      obtain ⟨rfl, A, c, hv⟩ := hz i z hi
      exact ⟨A, c, hv, fun j u hu => by simp at hu⟩
    · exact hw.2.1 d hd
  · exact List.pairwise_cons.2 ⟨fun d _ k hk => hk.elim, hw.2.2⟩
/-- Two parts as one. -/
theorem inn_app {F F' : Nat → Prop} {vs vs' : List Value} {zs zs' : List (List Int)} (k : Hold w0 (inn (fun k => F k ∨ F' k) (vs ++ vs') (zs ++ zs') :: L) G) : Hold w0 (inn F vs zs :: inn F' vs' zs' :: L) G := fun w hw => by
  have h1 := hw.2.1 (inn F vs zs) (by simp)
  have h2 := hw.2.1 (inn F' vs' zs') (by simp)
  have hp := List.pairwise_cons.1 hw.2.2
  have hp2 := List.pairwise_cons.1 hp.2
  refine k w ⟨hw.1, fun d hd => ?_, ?_⟩
  · rcases List.mem_cons.1 hd with rfl | hd
    · refine ⟨⟨fun k hk => hk.elim (h1.1.1 k) (h2.1.1 k), by simp [h1.1.2.1, h2.1.2.1], fun i z hz => ?_⟩, fun k hk => hk.elim (h1.2 k) (h2.2 k)⟩
      rcases Nat.lt_or_ge i zs.length with h3 | h3
      · rw [List.getElem?_append_left h3] at hz
        obtain ⟨A, c, hv, hc⟩ := h1.1.2.2 i z hz
        refine ⟨A, c, by rw [List.getElem?_append_left (by have := h1.1.2.1; omega)]; exact hv, fun j u hu => ?_⟩
        obtain ⟨a, ha, hF, hcell⟩ := hc j u hu
        exact ⟨a, ha, .inl hF, hcell⟩
      · rw [List.getElem?_append_right h3] at hz
        obtain ⟨A, c, hv, hc⟩ := h2.1.2.2 _ z hz
        have hl := h1.1.2.1
        refine ⟨A, c, by rw [List.getElem?_append_right (by omega), hl]; exact hv, fun j u hu => ?_⟩
        obtain ⟨a, ha, hF, hcell⟩ := hc j u hu
        exact ⟨a, ha, .inr hF, hcell⟩
    · exact hw.2.1 d (by simp [hd])
  · exact List.pairwise_cons.2 ⟨fun d hd k hk => hk.elim (fun h => hp.1 d (by simp [hd]) k h) (fun h => hp2.1 d hd k h), hp2.2⟩
/-- What number i of the inner rows is. -/
theorem use_inn {F : Nat → Prop} {vs : List Value} {zs : List (List Int)} {i : Nat} (hm : inn F vs zs ∈ L) (hi : i < zs.length) (k : ∀ A c, vs.getD i default = .slice A (zs.getD i default).length c → Hold w0 L G) : Hold w0 L G := fun w hw => by
  have h := (hw.2.1 _ hm).1
  obtain ⟨A, c, hv, _⟩ := h.2.2 i zs[i] (List.getElem?_eq_getElem hi)
  refine k A c ?_ w hw
  rw [List.getD_eq_getElem?_getD, List.getD_eq_getElem?_getD, hv, List.getElem?_eq_getElem hi]; rfl
theorem Rd.inn {F : Nat → Prop} {vs : List Value} {zs : List (List Int)} {i : Nat} {Fr : List Chunk} {w : World} {A : Option Addr} {c : Nat} (hw : St w0 Fr w) (hm : K.inn F vs zs ∈ Fr) (hi : i < zs.length) (hv : vs.getD i default = .slice A (zs.getD i default).length c) : Rd w A 1 eI (zs.getD i default) := fun j u hu => by
  have h := (hw.2.1 _ hm).1
  obtain ⟨A', c', hv', hc⟩ := h.2.2 i zs[i] (List.getElem?_eq_getElem hi)
  have e : zs.getD i default = zs[i] := by rw [List.getD_eq_getElem?_getD, List.getElem?_eq_getElem hi]; rfl
  rw [List.getD_eq_getElem?_getD, hv', e] at hv
  simp at hv
  obtain ⟨rfl, rfl⟩ := hv
  rw [e] at hu
  obtain ⟨a, ha, hF, hcell⟩ := hc j u hu
  refine ⟨a, ha, h.1 _ hF, fun m x hx => ?_⟩
  cases m with
  | zero => simp [eI] at hx; subst hx; rw [Nat.mul_one, addr_add0]; exact hcell
  | succ m => simp [eI] at hx
/-- One of the inner rows alone. -/
theorem inn_pick {F : Nat → Prop} {vs : List Value} {zs : List (List Int)} {i : Nat} (hi : i < zs.length) {A : Option Addr} {c : Nat} (hv : vs.getD i default = .slice A (zs.getD i default).length c) (k : Hold w0 (inn F [.slice A (zs.getD i default).length c] [zs.getD i default] :: L) G) : Hold w0 (inn F vs zs :: L) G := fun w hw => by
  have h := hw.2.1 (inn F vs zs) (by simp)
  have hp := List.pairwise_cons.1 hw.2.2
  have hrd := Rd.inn hw (List.mem_cons_self) hi hv
  obtain ⟨A', c', hv', hc⟩ := h.1.2.2 i zs[i] (List.getElem?_eq_getElem hi)
  have e : zs.getD i default = zs[i] := by rw [List.getD_eq_getElem?_getD, List.getElem?_eq_getElem hi]; rfl
  rw [List.getD_eq_getElem?_getD, hv', e] at hv
  simp at hv
  obtain ⟨rfl, rfl⟩ := hv
  refine k w ⟨hw.1, fun d hd => ?_, List.pairwise_cons.2 ⟨fun d hd k hk => hp.1 d hd k hk, hp.2⟩⟩
  rcases List.mem_cons.1 hd with rfl | hd
  · refine ⟨⟨h.1.1, rfl, fun j z hz => ?_⟩, h.2⟩
    cases j with
    | zero =>
      simp only [List.getElem?_cons_zero, Option.some.injEq] at hz
      subst hz
      refine ⟨A', c', rfl, fun j u hu => ?_⟩
      rw [e] at hu
      exact hc j u hu
    | succ j => simp at hz
  · exact hw.2.1 d (by simp [hd])
/-- What a call that makes slices of slices gives. -/
def RetLL (zs : List (List Int)) (w : World) : Ending → World → Prop :=
  Ret (fun r : Option Addr × Nat × List Value × (Nat → Prop) => r.2.2.1.all Value.oneCell' = true ∧ r.2.2.1.length = zs.length) (fun r => .slice r.1 r.2.2.1.length r.2.1) (fun r => [row (.slice r.1 r.2.2.1.length r.2.1) 22 1 r.2.2.1.length (r.2.2.1.flatMap eV), inn r.2.2.2 r.2.2.1 zs]) w
/-- What a call that hands back an inner row, and an error, gives. -/
def RetIE (xs : List Int) (z : Int) (w : World) : Ending → World → Prop :=
  Ret (fun _ : Option Addr × Nat × (Nat → Prop) => True) (fun r => .tuple #[.slice r.1 xs.length r.2.1, .int .i64 z]) (fun r => [inn r.2.2 [.slice r.1 xs.length r.2.1] [xs]]) w
theorem allV {vs : List Value} (h : vs.all Value.oneCell' = true) : (vs.flatMap eV).all Value.oneCell' = true := by rw [eV_flat]; exact h
end
end Go.K
