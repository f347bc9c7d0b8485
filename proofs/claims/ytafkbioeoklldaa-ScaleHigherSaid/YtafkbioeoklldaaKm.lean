/-
  Maps that a call makes and counts in.
  No conditions: plain lemmas over any program.
-/
import Derived.Test.YtafkbioeoklldaaKv
import Derived.WideKeyMaps
import Derived.DeepKeys4
import Derived.Carry
set_option linter.unusedSimpArgs false
set_option linter.unusedVariables false
namespace Go.K
open Go.RowKit
/-- Block b is a map of ints with these keys; bo: an entry that was just found. -/
def mp (b : Nat) (bo : Option Nat) (ks : List Value) : Chunk where
  foot := fun k => k = b
  holds := fun w => ∃ es clock, w.heap[b]? = some (.map es clock) ∧ es.toList.map (·.key) = ks ∧ (es.toList.map (·.born)).Nodup ∧ (∀ e ∈ es.toList, e.born < clock) ∧ (∀ e ∈ es.toList, ∃ n, e.val = .int .i64 n) ∧ ∀ x, bo = some x → ∃ e ∈ es.toList, e.born = x
  loc := fun w w' h hk => by
    obtain ⟨es, clock, h1, h2⟩ := h
    exact ⟨es, clock, (hk b rfl).trans h1, h2⟩
  live := fun _ k h hk => by
    subst hk
    obtain ⟨es, clock, h1, _⟩ := h
    exact lt_of_some h1
theorem grownBy_setMap (w : World) (b : Nat) (o : Obj) : w.grownBy { w with heap := w.heap.setIfInBounds b o } (some b) :=
  ⟨rfl, rfl, rfl, by simp, fun k _ hne => by
    have h : ¬ b = k := fun e => hne (by rw [e])
    simp [Array.getElem?_setIfInBounds, h]⟩
theorem map_set {w : World} {b : Nat} {o o' : Obj} (h : w.heap[b]? = some o) : ({ w with heap := w.heap.setIfInBounds b o' } : World).heap[b]? = some o' := by
  have := lt_of_some h
  simp [Array.getElem?_setIfInBounds, this]
section
variable {P : Program} {w0 : World} {L L' : List Chunk} {l : List Value} {d : Option Tmp} {ty : TypeId} {ps : String} {af : Array Edge} {g : Option (Nat × Bool)}
theorem mkMap {t : TypeId} : Loud P w0 L ⟨d, .makeMap t none, ty, ps, af, g⟩ l (fun _ : Nat => True) (fun b => .map (some b)) (fun b => [mp b none []]) := fun F w _ hw => by
  refine OpT.of_run (w' := w.alloc (.map #[] 0)) ?_ ⟨w.heap.size, trivial, rfl, hw.add (D := [mp w.heap.size none []]) ((Below.refl _ _).alloc (Nat.le_refl _) _) (own_one ⟨#[], 0, heap_alloc_new w _, rfl, by simp, by simp, by simp, by simp⟩ (fun k hk => by cases hk; exact Nat.le_refl _))⟩
  have := run_makeMap (P := P) t w
  simp [execOp, Sem.run_bind, this]
/-- The map's type is of such keys, with ints. -/
structure MapT (P : Program) (t kt : TypeId) : Prop where
  u : ∃ e, P.underlying t = some (.map kt e) ∧ (∀ w, (zeroValue e).run P w = .ok (.int .i64 0) w)
  law : WideMaps.KeyLaw P kt
variable {t kt b : Nat} {ks : List Value} {key : Value} {bo : Option Nat}
theorem lookup_mp {x y : Operand} (hM : MapT P t kt) (hx : ev l x = .map (some b)) (hy : ev l y = key) (hm : mp b bo ks ∈ L) (hk : ∃ q, keyOf P kt key = some q) (hks : ∀ v ∈ ks, ∃ q, keyOf P kt v = some q) :
    Loud P w0 L ⟨d, .lookup t x y false, ty, ps, af, g⟩ l (fun _ : Int => True) (fun n => .int .i64 n) (fun _ => []) := fun F w hF hw => by
  obtain ⟨es, clock, h1, h2, h3, h4, h5, h6⟩ := (hw.2.1 _ (hF _ hm)).1
  obtain ⟨e, hu, hz⟩ := hM.u
  obtain ⟨q, hq⟩ := hk
  have hall : ∀ x ∈ es.toList, ∃ l, keyOf P kt x.key = some l := fun x hx => hks _ (by rw [← h2]; exact List.mem_map_of_mem hx)
  have hc := hM.law.check w es.isEmpty hq
  rcases hM.law.find w hq es.toList hall with ⟨hf, _⟩ | ⟨j, e0, hf, he, _⟩
  · refine OpT.of_run (v := .int .i64 0) (w' := w) ?_ ⟨0, trivial, rfl, hw⟩
    simp [execOp, hx, hy, Instr.lookup, run_underlying hu, MapKept.run_getObj_map h1, hc, hf, hz, Result.andThen]
  · obtain ⟨n, hn⟩ := h5 e0 (List.mem_of_getElem? he)
    refine OpT.of_run (v := .int .i64 n) (w' := w) ?_ ⟨n, trivial, rfl, hw⟩
    simp [execOp, hx, hy, Instr.lookup, run_underlying hu, MapKept.run_getObj_map h1, hc, hf, hn, Result.andThen]
/-- A set of keys, with one more. -/
def insK {E : Type} [DecidableEq E] (ks : List E) (k : E) : List E := if k ∈ ks then ks else ks ++ [k]
theorem modify_same {es : Array MapEntry} {j : Nat} {e0 : MapEntry} {key : Value} (he : es.toList[j]? = some e0) (hk : e0.key = key) : es.modify j (fun e => { e with key := key }) = es := by
  apply Array.ext'
  apply List.ext_getElem?
  intro i
  simp only [Array.toList_modify, List.getElem?_modify]
  split
  · rename_i h; subst h
    rw [he]; cases e0; simp at hk; simp [hk]
  · simp
theorem mapEntry_mp {x y : Operand} {ks' : List Value} {M' : Nat → List Chunk} (hM : MapT P t kt) (hx : ev l x = .map (some b)) (hy : ev l y = key) (hk : ∃ q, keyOf P kt key = some q) (hks : ∀ v ∈ ks, ∃ q, keyOf P kt v = some q)
    (hks' : (key ∈ ks → ks' = ks) ∧ (key ∉ ks → ks' = ks ++ [key])) (hr : ∀ n, Rep (mp b none ks) (mp b (some n) ks') L (M' n)) :
    Upd P w0 L ⟨d, .mapEntry t x y, ty, ps, af, g⟩ l (fun _ : Int × Nat => True) (fun r => .tuple #[.int .i64 r.1, .int .i64 r.2]) (fun r => M' r.2) := fun w hw => by
  obtain ⟨es, clock, h1, h2, h3, h4, h5, h6⟩ := (hw.2.1 _ (hr 0).mem).1
  obtain ⟨e, hu, hz⟩ := hM.u
  obtain ⟨q, hq⟩ := hk
  have hall : ∀ x ∈ es.toList, ∃ l, keyOf P kt x.key = some l := fun x hx => hks _ (by rw [← h2]; exact List.mem_map_of_mem hx)
  have hc := hM.law.check w false hq
  have hst := hM.law.stays w hq
  rcases hM.law.find w hq es.toList hall with ⟨hf, hne⟩ | ⟨j, e0, hf, he, hkey⟩
  · have hnk : key ∉ ks := fun h => by
      rw [← h2] at h
      obtain ⟨e1, he1, hh⟩ := List.mem_map.1 h
      exact hne e1 he1 hh
    refine OpT.of_run (v := .tuple #[.int .i64 0, .int .i64 clock]) (w' := { w with heap := w.heap.setIfInBounds b (.map (es.push ⟨key, .int .i64 0, clock⟩) (clock + 1)) }) ?_ ⟨(0, clock), trivial, rfl, ?_⟩
    · simp [execOp, hx, hy, Instr.mapEntry, run_underlying hu, MapKept.run_getObj_map h1, hc, hf, hz, MapKept.run_setObj_map _ h1, goInt, Result.andThen]
    · refine hw.upd (hr clock) (grownBy_setMap w b _) (fun k hk => by cases hk; rfl) ⟨_, _, map_set h1, ?_, ?_, ?_, ?_, ?_⟩ (fun k hk => .inl hk)
      · rw [hks'.2 hnk, ← h2]; simp
      · simp only [Array.toList_push, List.map_append, List.map_cons, List.map_nil]
        refine List.nodup_append.2 ⟨h3, by simp, fun a ha c hc he => ?_⟩
        obtain ⟨e1, he1, rfl⟩ := List.mem_map.1 ha
        simp at hc
        have := h4 e1 he1
        omega
      · intro e1 he1
        simp only [Array.toList_push, List.mem_append, List.mem_singleton] at he1
        rcases he1 with he1 | rfl
        · have := h4 e1 he1; omega
        · simp
      · intro e1 he1
        simp only [Array.toList_push, List.mem_append, List.mem_singleton] at he1
        rcases he1 with he1 | rfl
        · exact h5 e1 he1
        · exact ⟨0, rfl⟩
      · intro x hx
        cases hx
        exact ⟨⟨key, .int .i64 0, clock⟩, by simp, rfl⟩
  · obtain ⟨n, hn⟩ := h5 e0 (List.mem_of_getElem? he)
    have hmk : key ∈ ks := by rw [← h2, ← hkey]; exact List.mem_map_of_mem (List.mem_of_getElem? he)
    have he' : es[j]? = some e0 := by simpa using he
    have hm2 : es.modify j (fun e => { e with key := key }) = es := modify_same he hkey
    refine OpT.of_run (v := .tuple #[.int .i64 n, .int .i64 e0.born]) (w' := { w with heap := w.heap.setIfInBounds b (.map es clock) }) ?_ ⟨(n, e0.born), trivial, rfl, ?_⟩
    · simp [execOp, hx, hy, Instr.mapEntry, run_underlying hu, MapKept.run_getObj_map h1, hc, hf, hn, he', hkey, hst, hm2, MapKept.run_setObj_map _ h1, goInt, Result.andThen]
    · refine hw.upd (hr e0.born) (grownBy_setMap w b _) (fun k hk => by cases hk; rfl) ⟨_, _, map_set h1, ?_, h3, h4, h5, ?_⟩ (fun k hk => .inl hk)
      · rw [hks'.1 hmk, h2]
      · intro x hx
        cases hx
        exact ⟨e0, List.mem_of_getElem? he, rfl⟩
theorem entryStore_mp {x y z : Operand} {n : Nat} {m : Int} (hx : ev l x = .map (some b)) (hy : ev l y = .int .i64 n) (hz : ev l z = .int .i64 m) (hr : Rep (mp b (some n) ks) (mp b none ks) L L') :
    Upd P w0 L ⟨d, .entryStore t x y z, ty, ps, af, g⟩ l (fun _ : Unit => True) (fun _ => undef) (fun _ => L') := fun w hw => by
  obtain ⟨es, clock, h1, h2, h3, h4, h5, h6⟩ := (hw.2.1 _ hr.mem).1
  obtain ⟨e0, he0, hb0⟩ := h6 n rfl
  cases hf : es.findIdx? (fun e => (e.born : Int) == (n : Int)) with
  | none =>
    have := Array.findIdx?_eq_none_iff.1 hf e0 (by simpa using he0)
    simp [hb0] at this
  | some j =>
    have hm : ∀ i, ((es.modify j fun e => { e with val := .int .i64 m }).toList)[i]? = (es.toList[i]?).map fun e => if j = i then { e with val := .int .i64 m } else e := fun i => by
      simp only [Array.toList_modify, List.getElem?_modify]
      split <;> rename_i h <;> simp [h]
    have hmem : ∀ e1 ∈ (es.modify j fun e => { e with val := .int .i64 m }).toList, ∃ e2 ∈ es.toList, e1.born = e2.born ∧ e1.key = e2.key ∧ (e1.val = e2.val ∨ e1.val = .int .i64 m) := fun e1 he1 => by
      obtain ⟨i, hi⟩ := List.getElem?_of_mem he1
      rw [hm] at hi
      obtain ⟨e2, h7, rfl⟩ := Option.map_eq_some_iff.1 hi
      refine ⟨e2, List.mem_of_getElem? h7, ?_⟩
      split <;> simp
    have hmap : ∀ {T : Type} (f : MapEntry → T), (∀ e v, f { e with val := v } = f e) → (es.modify j fun e => { e with val := .int .i64 m }).toList.map f = es.toList.map f := fun f hf => by
      apply List.ext_getElem?
      intro i
      rw [List.getElem?_map, hm, List.getElem?_map, Option.map_map]
      congr 1
      funext e
      simp only [Function.comp]
      split
      · exact hf _ _
      · rfl
    refine OpT.of_skip (w' := { w with heap := w.heap.setIfInBounds b (.map (es.modify j fun e => { e with val := .int .i64 m }) clock) }) ?_ ⟨(), trivial, rfl, ?_⟩
    · simp [execOp, hx, hy, hz, Instr.entryStore, MapKept.run_getObj_map h1, asInt, asIntOf, hf, MapKept.run_setObj_map _ h1, Result.andThen]
    · refine hw.upd hr (grownBy_setMap w b _) (fun k hk => by cases hk; rfl) ⟨_, _, map_set h1, ?_, ?_, ?_, ?_, by simp⟩ (fun k hk => .inl hk)
      · rw [hmap _ (fun _ _ => rfl), h2]
      · rw [hmap _ (fun _ _ => rfl)]; exact h3
      · intro e1 he1
        obtain ⟨e2, h7, h8, _⟩ := hmem e1 he1
        rw [h8]; exact h4 e2 h7
      · intro e1 he1
        obtain ⟨e2, h7, _, _, h8⟩ := hmem e1 he1
        rcases h8 with h8 | h8
        · obtain ⟨q, hq⟩ := h5 e2 h7
          exact ⟨q, h8.trans hq⟩
        · exact ⟨m, h8⟩
theorem len_mp {t e : TypeId} {x : Operand} (ht : P.underlying t = some (.map kt e)) (hx : ev l x = .map (some b)) (hm : mp b bo ks ∈ L) :
    Sil P w0 L ⟨d, .call { callee := .builtin .len, args := #[x], argTypes := #[t] }, ty, ps, af, g⟩ l (.int .i64 ks.length) := fun F w hF hw => by
  obtain ⟨es, clock, h1, h2, _⟩ := (hw.2.1 _ (hF _ hm)).1
  have h3 : es.size = ks.length := by rw [← h2]; simp
  simp [execOp, resolve, invoke, builtin, hx, Builtin.len_, Sem.run_bind, run_underlying ht w, MapKept.run_getObj_map h1, goInt, h3]
end
end Go.K
