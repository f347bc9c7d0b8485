/-
  Plain lemmas and plain functions, several texts joined.
  Conditions stand in each theorem.
-/
import Derived.Test.YtoemnobfnnjopaaDoorK2
import Derived.Carry
import Derived.Test.YtoemnobfnnjopaaDoorK4
import Derived.Laws.CopyRow
set_option linter.unusedSimpArgs false
set_option linter.unusedVariables false
/-
  Strings: lengths, bytes, equality, and the runes of one.
  No conditions: plain lemmas over any program.
-/
namespace Go.K
open Go.RowKit
/-- Block b is an iterator over the string s, at place p. -/
def sit (b : Nat) (s : ByteArray) (p : Nat) : Chunk where
  foot := fun k => k = b
  holds := fun w => w.heap[b]? = some (.stringIter s p)
  loc := fun _ _ h hk => (hk b rfl).trans h
  live := fun _ k h hk => by subst hk; exact lt_of_some h
theorem grownBy_setAt (w : World) (b : Nat) (o : Obj) : w.grownBy { w with heap := w.heap.setIfInBounds b o } (some b) :=
  ⟨rfl, rfl, rfl, by simp, fun k _ hne => by
    have h : ¬ b = k := fun e => hne (by rw [e])
    simp [Array.getElem?_setIfInBounds, h]⟩
theorem at_set {w : World} {b : Nat} {o o' : Obj} (h : w.heap[b]? = some o) : ({ w with heap := w.heap.setIfInBounds b o' } : World).heap[b]? = some o' := by
  have := lt_of_some h
  simp [Array.getElem?_setIfInBounds, this]
theorem run_getSit {P : Program} {w : World} {b p : Nat} {s : ByteArray} (h : w.heap[b]? = some (.stringIter s p)) : (getObj b).run P w = .ok (.stringIter s p) w := by
  simp [getObj, Sem.run, h]
theorem run_setSit {P : Program} {w : World} {b p : Nat} {s : ByteArray} (o : Obj) (h : w.heap[b]? = some (.stringIter s p)) : (setObj b o).run P w = .ok () { w with heap := w.heap.setIfInBounds b o } := by
  simp [setObj, Sem.run, h]
section
variable {P : Program} {w0 : World} {L L' : List Chunk} {l : List Value} {d : Option Tmp} {ty : TypeId} {ps : String} {af : Array Edge} {g : Option (Nat × Bool)}
theorem rangeS {t : TypeId} {x : Operand} {s : ByteArray} (ht : sT P t = true) (hx : ev l x = .string s) : Loud P w0 L ⟨d, .range t x, ty, ps, af, g⟩ l (fun _ : Nat => True) (fun b => .pointer (some ⟨b, 0, none⟩)) (fun b => [sit b s 0]) := fun F w _ hw => by
  refine OpT.of_run (w' := w.alloc (.stringIter s 0)) ?_ ⟨w.heap.size, trivial, rfl, hw.add (D := [sit w.heap.size s 0]) ((Below.refl _ _).alloc (Nat.le_refl _) _) (own_one (heap_alloc_new w _) (fun k hk => by cases hk; exact Nat.le_refl _))⟩
  simp [execOp, hx, Instr.range, run_underlying (sT_spec ht), Result.andThen]
variable {x : Operand} {b p : Nat} {s : ByteArray}
theorem nextS_more (hx : ev l x = .pointer (some ⟨b, 0, none⟩)) (hp : p < s.size) (hr : Rep (sit b s p) (sit b s (p + (Utf8.decode s p).2)) L L') :
    Upd P w0 L ⟨d, .next x true, ty, ps, af, g⟩ l (fun _ : Unit => True) (fun _ => .tuple #[.bool true, .int .i64 (p : Int), .int .i32 ((Utf8.decode s p).1 : Nat)]) (fun _ => L') := fun w hw => by
  have h1 : w.heap[b]? = some (.stringIter s p) := (hw.2.1 _ hr.mem).1
  refine OpT.of_run (w' := { w with heap := w.heap.setIfInBounds b (.stringIter s (p + (Utf8.decode s p).2)) }) ?_ ⟨(), trivial, rfl, ?_⟩
  · simp [execOp, hx, Instr.next, run_getSit h1, run_setSit _ h1, hp, goInt, Result.andThen]
  · exact hw.upd hr (grownBy_setAt w b _) (fun k hk => by cases hk; rfl) (at_set h1) (fun k hk => .inl hk)
theorem nextS_over (hx : ev l x = .pointer (some ⟨b, 0, none⟩)) (hp : ¬ p < s.size) (hm : sit b s p ∈ L) :
    Sil P w0 L ⟨d, .next x true, ty, ps, af, g⟩ l (.tuple #[.bool false]) := fun F w hF hw => by
  have h1 : w.heap[b]? = some (.stringIter s p) := (hw.2.1 _ (hF _ hm)).1
  simp [execOp, hx, Instr.next, run_getSit h1, hp, goInt, Result.andThen]
/-- The byte at a place. -/
def bt (s : ByteArray) (k : Nat) : Int := ((s.get! k).toNat : Int)
theorem bt_bounds {k : Nat} : 0 ≤ bt s k ∧ bt s k ≤ 255 := by
  unfold bt
  have := (s.get! k).toNat_lt
  omega
theorem get_opt {k : Nat} (h : k < s.size) : s[k]? = some (s.get! k) := by
  have h' : k < s.data.size := h
  simp [ByteArray.get!, getElem?_pos, h, h']; rfl
theorem len_s {t : TypeId} (ht : sT P t = true) (hx : ev l x = .string s) : Pure P ⟨d, .call { callee := .builtin .len, args := #[x], argTypes := #[t] }, ty, ps, af, g⟩ l (.int .i64 (s.size : Nat)) := fun w => by
  simp [execOp, resolve, invoke, builtin, hx, Builtin.len_, Sem.run_bind, run_underlying (sT_spec ht) w, goInt]
theorem index_s {t : TypeId} {y : Operand} {k : IntKind} {z : Int} {m : Nat} (ht : sT P t = true) (hx : ev l x = .string s) (hy : ev l y = .int k z) (hz : z = (m : Int)) (h1 : m < s.size) : Pure P ⟨d, .index t x y, ty, ps, af, g⟩ l (.int .u8 (bt s m)) := fun w => by
  subst hz
  simp [execOp, hx, hy, Instr.index, asIntOf, Sem.run_bind, run_underlying (sT_spec ht) w, get_opt h1, bt]
theorem eql_s {xt yt : TypeId} {y : Operand} {r : ByteArray} (hx : ev l x = .string s) (hy : ev l y = .string r) : Pure P ⟨d, .binOp .eql xt x y yt, ty, ps, af, g⟩ l (.bool (s.toList == r.toList)) := fun w => by
  simp [execOp, hx, hy, binOp, eqGuard, Op.stringOp]
theorem neq_s {xt yt : TypeId} {y : Operand} {r : ByteArray} (hx : ev l x = .string s) (hy : ev l y = .string r) : Pure P ⟨d, .binOp .neq xt x y yt, ty, ps, af, g⟩ l (.bool !(s.toList == r.toList)) := fun w => by
  simp [execOp, hx, hy, binOp, eqGuard, Op.stringOp]
theorem decode_lo (h : bt s p < 128) : Utf8.decode s p = ((s.get! p).toNat, 1) := by
  unfold bt at h
  have h' : (s.get! p).toNat < 128 := by omega
  simp [Utf8.decode, h']
theorem decode_hi (h : ¬ bt s p < 128) : 128 ≤ (Utf8.decode s p).1 := by
  unfold bt at h
  have h' : ¬ (s.get! p).toNat < 128 := by omega
  unfold Utf8.decode
  simp only [Nat.add_zero, h', if_false, Utf8.runeError]
  split
  · split <;> simp only <;> omega
  · split
    · split
      · rename_i h1; simp only [Bool.and_eq_true, decide_eq_true_eq] at h1; simp only; omega
      · simp
    · split
      · split
        · rename_i h1; simp only [Bool.and_eq_true, decide_eq_true_eq] at h1; simp only; omega
        · simp
      · simp
end
end Go.K

/-
  Maps that a call makes, with the numbers that they hold.
  No conditions: plain lemmas over any program.
-/
namespace Go.K
open Go.RowKit
/-- Block b is a map with these keys and numbers; bo: an entry that was just found, and its place. -/
def mq (b : Nat) (bo : Option (Nat × Nat)) (kvs : List (Value × Int)) : Chunk where
  foot := fun k => k = b
  holds := fun w => ∃ es clock, w.heap[b]? = some (.map es clock) ∧ es.toList.map (fun e => (e.key, e.val)) = kvs.map (fun p => (p.1, Value.int .i64 p.2)) ∧ (es.toList.map (·.born)).Nodup ∧ (∀ e ∈ es.toList, e.born < clock) ∧ ∀ x, bo = some x → ∃ e, es.toList[x.2]? = some e ∧ e.born = x.1
  loc := fun w w' h hk => by
    obtain ⟨es, clock, h1, h2⟩ := h
    exact ⟨es, clock, (hk b rfl).trans h1, h2⟩
  live := fun _ k h hk => by
    subst hk
    obtain ⟨es, clock, h1, _⟩ := h
    exact lt_of_some h1
/-- What is held after a key was looked for, to be written. -/
def entQ (kvs : List (Value × Int)) (key : Value) (j : Nat) : List (Value × Int) := if j < kvs.length then kvs else kvs ++ [(key, 0)]
section
variable {P : Program} {w0 : World} {L L' : List Chunk} {l : List Value} {d : Option Tmp} {ty : TypeId} {ps : String} {af : Array Edge} {g : Option (Nat × Bool)}
theorem mkMap_q {t : TypeId} : Loud P w0 L ⟨d, .makeMap t none, ty, ps, af, g⟩ l (fun _ : Nat => True) (fun b => .map (some b)) (fun b => [mq b none []]) := fun F w _ hw => by
  refine OpT.of_run (w' := w.alloc (.map #[] 0)) ?_ ⟨w.heap.size, trivial, rfl, hw.add (D := [mq w.heap.size none []]) ((Below.refl _ _).alloc (Nat.le_refl _) _) (own_one ⟨#[], 0, heap_alloc_new w _, rfl, by simp, by simp, by simp⟩ (fun k hk => by cases hk; exact Nat.le_refl _))⟩
  have := run_makeMap (P := P) t w
  simp [execOp, Sem.run_bind, this]
variable {t kt b : Nat} {kvs : List (Value × Int)} {key : Value} {bo : Option (Nat × Nat)}
theorem mq_at {es : Array MapEntry} (h : es.toList.map (fun e => (e.key, e.val)) = kvs.map (fun p => (p.1, Value.int .i64 p.2))) {j : Nat} {e0 : MapEntry} (he : es.toList[j]? = some e0) : ∃ n, kvs[j]? = some (e0.key, n) ∧ e0.val = .int .i64 n := by
  have h1 := congrArg (fun l => l[j]?) h
  simp only [List.getElem?_map, he, Option.map_some] at h1
  cases hk : kvs[j]? with
  | none => rw [hk] at h1; cases h1
  | some p =>
    rw [hk] at h1
    simp at h1
    exact ⟨p.2, by rw [h1.1], h1.2⟩
theorem mq_none {es : Array MapEntry} (h : es.toList.map (fun e => (e.key, e.val)) = kvs.map (fun p => (p.1, Value.int .i64 p.2))) (hne : ∀ e ∈ es.toList, e.key ≠ key) : ∀ p ∈ kvs, p.1 ≠ key := fun p hp hk => by
  have h1 : (p.1, Value.int .i64 p.2) ∈ es.toList.map (fun e => (e.key, e.val)) := by rw [h]; exact List.mem_map_of_mem hp
  obtain ⟨e, he, hh⟩ := List.mem_map.1 h1
  injection hh with h2 _
  exact hne e he (h2.trans hk)
theorem mq_keys {es : Array MapEntry} (h : es.toList.map (fun e => (e.key, e.val)) = kvs.map (fun p => (p.1, Value.int .i64 p.2))) (hks : ∀ p ∈ kvs, ∃ q, keyOf P kt p.1 = some q) : ∀ x ∈ es.toList, ∃ l, keyOf P kt x.key = some l := fun x hx => by
  obtain ⟨j, hj⟩ := List.getElem?_of_mem hx
  obtain ⟨n, hn, _⟩ := mq_at h hj
  exact hks _ (List.mem_of_getElem? hn)
theorem lookup_mq {x y : Operand} (hM : MapT P t kt) (hx : ev l x = .map (some b)) (hy : ev l y = key) (hm : mq b bo kvs ∈ L) (hk : ∃ q, keyOf P kt key = some q) (hks : ∀ p ∈ kvs, ∃ q, keyOf P kt p.1 = some q) :
    Loud P w0 L ⟨d, .lookup t x y false, ty, ps, af, g⟩ l (fun n : Int => (n = 0 ∧ ∀ p ∈ kvs, p.1 ≠ key) ∨ (key, n) ∈ kvs) (fun n => .int .i64 n) (fun _ => []) := fun F w hF hw => by
  obtain ⟨es, clock, h1, h2, h3, h4, h6⟩ := (hw.2.1 _ (hF _ hm)).1
  obtain ⟨e, hu, hz⟩ := hM.u
  obtain ⟨q, hq⟩ := hk
  have hall := mq_keys (P := P) (kt := kt) h2 hks
  have hc := hM.law.check w es.isEmpty hq
  rcases hM.law.find w hq es.toList hall with ⟨hf, hne⟩ | ⟨j, e0, hf, he, hkey⟩
  · refine OpT.of_run (v := .int .i64 0) (w' := w) ?_ ⟨0, .inl ⟨rfl, mq_none h2 hne⟩, rfl, hw⟩
    simp [execOp, hx, hy, Instr.lookup, run_underlying hu, MapKept.run_getObj_map h1, hc, hf, hz, Result.andThen]
  · obtain ⟨n, hn0, hn⟩ := mq_at h2 he
    refine OpT.of_run (v := .int .i64 n) (w' := w) ?_ ⟨n, .inr (by rw [← hkey]; exact List.mem_of_getElem? hn0), rfl, hw⟩
    simp [execOp, hx, hy, Instr.lookup, run_underlying hu, MapKept.run_getObj_map h1, hc, hf, hn, Result.andThen]
theorem mapEntry_mq {x y : Operand} {M' : Int × Nat × Nat → List Chunk} (hM : MapT P t kt) (hx : ev l x = .map (some b)) (hy : ev l y = key) (hk : ∃ q, keyOf P kt key = some q) (hks : ∀ p ∈ kvs, ∃ q, keyOf P kt p.1 = some q)
    (hr : ∀ r : Int × Nat × Nat, Rep (mq b none kvs) (mq b (some (r.2.1, r.2.2)) (entQ kvs key r.2.2)) L (M' r)) :
    Upd P w0 L ⟨d, .mapEntry t x y, ty, ps, af, g⟩ l (fun r : Int × Nat × Nat => (r.2.2 = kvs.length ∧ r.1 = 0 ∧ ∀ p ∈ kvs, p.1 ≠ key) ∨ kvs[r.2.2]? = some (key, r.1)) (fun r => .tuple #[.int .i64 r.1, .int .i64 r.2.1]) M' := fun w hw => by
  obtain ⟨es, clock, h1, h2, h3, h4, h6⟩ := (hw.2.1 _ (hr (0, 0, 0)).mem).1
  obtain ⟨e, hu, hz⟩ := hM.u
  obtain ⟨q, hq⟩ := hk
  have hall := mq_keys (P := P) (kt := kt) h2 hks
  have hlen : es.toList.length = kvs.length := by simpa using congrArg List.length h2
  have hc := hM.law.check w false hq
  have hst := hM.law.stays w hq
  rcases hM.law.find w hq es.toList hall with ⟨hf, hne⟩ | ⟨j, e0, hf, he, hkey⟩
  · refine OpT.of_run (v := .tuple #[.int .i64 0, .int .i64 clock]) (w' := { w with heap := w.heap.setIfInBounds b (.map (es.push ⟨key, .int .i64 0, clock⟩) (clock + 1)) }) ?_ ⟨(0, clock, kvs.length), .inl ⟨rfl, rfl, mq_none h2 hne⟩, rfl, ?_⟩
    · simp [execOp, hx, hy, Instr.mapEntry, run_underlying hu, MapKept.run_getObj_map h1, hc, hf, hz, MapKept.run_setObj_map _ h1, goInt, Result.andThen]
    · refine hw.upd (hr (0, clock, kvs.length)) (grownBy_setMap w b _) (fun k hk => by cases hk; rfl) ⟨_, _, map_set h1, ?_, ?_, ?_, ?_⟩ (fun k hk => .inl hk)
      · rw [entQ, if_neg (Nat.lt_irrefl _)]
        simp [h2]
      · simp only [Array.toList_push, List.map_append, List.map_cons, List.map_nil]
        refine List.nodup_append.2 ⟨h3, by simp, fun a ha c hc he => ?_⟩
        obtain ⟨e1, he1, rfl⟩ := List.mem_map.1 ha
        simp at hc
        have := h4 e1 he1
        omega
      · intro e1 he1
        simp only [Array.toList_push, List.mem_append, List.mem_singleton] at he1
        rcases he1 with he1 | rfl
        · have := h4 e1 he1; omega
        · simp
      · intro x hx
        cases hx
        exact ⟨⟨key, .int .i64 0, clock⟩, by simp [← hlen], rfl⟩
  · obtain ⟨n, hn0, hn⟩ := mq_at h2 he
    have he' : es[j]? = some e0 := by simpa using he
    have hj : j < kvs.length := (List.getElem?_eq_some_iff.1 hn0).1
    have hm2 : es.modify j (fun e => { e with key := key }) = es := modify_same he hkey
    refine OpT.of_run (v := .tuple #[.int .i64 n, .int .i64 e0.born]) (w' := { w with heap := w.heap.setIfInBounds b (.map es clock) }) ?_ ⟨(n, e0.born, j), .inr (by rw [hn0, hkey]), rfl, ?_⟩
    · simp [execOp, hx, hy, Instr.mapEntry, run_underlying hu, MapKept.run_getObj_map h1, hc, hf, hn, he', hkey, hst, hm2, MapKept.run_setObj_map _ h1, goInt, Result.andThen]
    · refine hw.upd (hr (n, e0.born, j)) (grownBy_setMap w b _) (fun k hk => by cases hk; rfl) ⟨_, _, map_set h1, ?_, h3, h4, ?_⟩ (fun k hk => .inl hk)
      · rw [entQ, if_pos hj]; exact h2
      · intro x hx
        cases hx
        exact ⟨e0, he, rfl⟩
theorem entryStore_mq {x y z : Operand} {n j : Nat} {m : Int} (hx : ev l x = .map (some b)) (hy : ev l y = .int .i64 n) (hz : ev l z = .int .i64 m) (hr : Rep (mq b (some (n, j)) kvs) (mq b none (kvs.modify j fun p => (p.1, m))) L L') :
    Upd P w0 L ⟨d, .entryStore t x y z, ty, ps, af, g⟩ l (fun _ : Unit => True) (fun _ => undef) (fun _ => L') := fun w hw => by
  obtain ⟨es, clock, h1, h2, h3, h4, h6⟩ := (hw.2.1 _ hr.mem).1
  obtain ⟨e0, he0, hb0⟩ := h6 _ rfl
  simp only at he0 hb0
  cases hf : es.findIdx? (fun e => (e.born : Int) == (n : Int)) with
  | none =>
    have := Array.findIdx?_eq_none_iff.1 hf e0 (by simpa using List.mem_of_getElem? he0)
    simp [hb0] at this
  | some i =>
    have hij : i = j := by
      obtain ⟨hi, hp, _⟩ := Array.findIdx?_eq_some_iff_getElem.1 hf
      have hp' : es[i].born = n := by
        have h9 : ((es[i].born : Nat) : Int) = (n : Int) := by simpa using hp
        omega
      have hjl : j < es.toList.length := (List.getElem?_eq_some_iff.1 he0).1
      have hb1 : (es.toList.map (·.born))[i]? = some n := by simp [hi, hp']
      have hb2 : (es.toList.map (·.born))[j]? = some n := by rw [List.getElem?_map, he0]; simp [hb0]
      exact (List.getElem?_inj (by simpa using hi) h3).1 (hb1.trans hb2.symm)
    subst hij
    have hm : ∀ k, ((es.modify i fun e => { e with val := .int .i64 m }).toList)[k]? = (es.toList[k]?).map fun e => if i = k then { e with val := .int .i64 m } else e := fun k => by
      simp only [Array.toList_modify, List.getElem?_modify]
      split <;> rename_i h <;> simp [h]
    have hborn : (es.modify i fun e => { e with val := .int .i64 m }).toList.map (·.born) = es.toList.map (·.born) := by
      apply List.ext_getElem?
      intro k
      rw [List.getElem?_map, hm, List.getElem?_map, Option.map_map]
      congr 1
      funext e
      simp only [Function.comp]
      split <;> rfl
    refine OpT.of_skip (w' := { w with heap := w.heap.setIfInBounds b (.map (es.modify i fun e => { e with val := .int .i64 m }) clock) }) ?_ ⟨(), trivial, rfl, ?_⟩
    · simp [execOp, hx, hy, hz, Instr.entryStore, MapKept.run_getObj_map h1, asInt, asIntOf, hf, MapKept.run_setObj_map _ h1, Result.andThen]
    · refine hw.upd hr (grownBy_setMap w b _) (fun k hk => by cases hk; rfl) ⟨_, _, map_set h1, ?_, by rw [hborn]; exact h3, ?_, by simp⟩ (fun k hk => .inl hk)
      · apply List.ext_getElem?
        intro k
        have h7 := congrArg (fun l => l[k]?) h2
        simp only [List.getElem?_map] at h7
        rw [List.getElem?_map, hm, List.getElem?_map, List.getElem?_modify, Option.map_map]
        split
        · rename_i hk; subst hk
          cases h8 : es.toList[i]? with
          | none => rw [h8] at h7; cases h9 : kvs[i]? with
            | none => simp [h9]
            | some p => rw [h9] at h7; cases h7
          | some e1 => rw [h8] at h7; cases h9 : kvs[i]? with
            | none => rw [h9] at h7; cases h7
            | some p => rw [h9] at h7; simp at h7; simp [h7.1]
        · rename_i hk
          cases h8 : es.toList[k]? with
          | none => rw [h8] at h7; cases h9 : kvs[k]? with
            | none => simp [h9]
            | some p => rw [h9] at h7; cases h7
          | some e1 => rw [h8] at h7; cases h9 : kvs[k]? with
            | none => rw [h9] at h7; cases h7
            | some p => rw [h9] at h7; simp at h7; simp [h7.1, h7.2, hk]
      · intro e1 he1
        have h8 : e1.born ∈ es.toList.map (·.born) := by rw [← hborn]; exact List.mem_map_of_mem he1
        obtain ⟨e2, he2, hh⟩ := List.mem_map.1 h8
        rw [← hh]; exact h4 e2 he2
end
theorem Rd.take {E : Type} {w : World} {A : Option Addr} {size : Nat} {e : E → List Value} {xs : List E} (h : Rd w A size e xs) (n : Nat) : Rd w A size e (xs.take n) := fun k x hx => h k x (by
  rw [List.getElem?_take] at hx
  split at hx
  · exact hx
  · cases hx)
theorem take_sub {L : List Chunk} (n : Nat) : ∀ c, c ∈ L.take n → c ∈ L := fun _ h => List.mem_of_mem_take h
/-- A key that is a struct of two ints. -/
def key2 (P : Program) (t : TypeId) : Bool :=
  P.keyType t && P.cellsOf t == 2 && match P.underlying t with
  | some (.struct fs) => fs.all (·.name != "_") && match fs.toList with
    | [f, g] => P.cellsOf f.type == 1 && P.cellsOf g.type == 1 && (match P.underlying f.type with | some (.int .i64) => true | _ => false) && (match P.underlying g.type with | some (.int .i64) => true | _ => false) && f.offset == 0 && g.offset == 1
    | _ => false
  | _ => false
theorem int_i64 {P : Program} {t : TypeId} (h : (match P.underlying t with | some (.int .i64) => true | _ => false) = true) : P.underlying t = some (.int .i64) := by
  split at h
  · assumption
  · cases h
theorem keyLits_i64 {P : Program} {t : TypeId} {m : Nat} {n : Int} (hu : P.underlying t = some (.int .i64)) (h : (Lit.int .i64 n).wf = true) : P.keyLits (m + 1) t [.int .i64 n] = some [.int .i64 n] := by
  unfold Program.keyLits
  rw [hu]
  simp [h]
theorem keyOf_2 {P : Program} {t : TypeId} {x y : Int} (hk : key2 P t = true) (hs : 0 < P.types.size) (hf : (Value.agg #[.int .i64 x, .int .i64 y]).formed P t = true) (hx : (Lit.int .i64 x).wf = true) (hy : (Lit.int .i64 y).wf = true) : ∃ q, keyOf P t (.agg #[.int .i64 x, .int .i64 y]) = some q := by
  unfold key2 at hk
  simp only [Bool.and_eq_true, beq_iff_eq] at hk
  obtain ⟨⟨h1, h2⟩, h3⟩ := hk
  split at h3
  · rename_i fs hu
    simp only [Bool.and_eq_true] at h3
    obtain ⟨h4, h5⟩ := h3
    split at h5
    · rename_i f g hl
      simp only [Bool.and_eq_true, beq_iff_eq] at h5
      obtain ⟨⟨⟨⟨⟨c1, c2⟩, u1⟩, u2⟩, o1⟩, o2⟩ := h5
      have u1' := int_i64 u1
      have u2' := int_i64 u2
      obtain ⟨s, hs'⟩ : ∃ s, P.types.size = s + 1 := ⟨P.types.size - 1, by omega⟩
      refine ⟨.string (keyBytes [.int .i64 x, .int .i64 y]), ?_⟩
      unfold keyOf
      rw [hu]
      simp only [h1, hf, Bool.and_self, if_true]
      have e : (Value.agg #[.int .i64 x, .int .i64 y]).cells.toList = [.int .i64 x, .int .i64 y] := rfl
      rw [e]
      unfold Program.keyLits
      rw [hu]
      have e1 : (([.int .i64 x, .int .i64 y] : List Value).drop 0).take 1 = [.int .i64 x] := rfl
      have e2 : (([.int .i64 x, .int .i64 y] : List Value).drop 1).take 1 = [.int .i64 y] := rfl
      simp only [hl, h2, h4, hs', List.length_cons, List.length_nil, and_self, if_true, List.mapM_cons, List.mapM_nil, o1, o2, c1, c2, e1, e2, keyLits_i64 u1' hx, keyLits_i64 u2' hy]
      rfl
    · cases h5
  · cases h3
end Go.K

/-
  Pointers to structs with arrays: checks for nil, arrays as slices, copies, reads at a place told by a number.
  No conditions: plain lemmas over any program.
-/
namespace Go.K
open Go.RowKit
section
variable {P : Program} {w0 : World} {L L' : List Chunk} {l : List Value} {d : Option Tmp} {ty : TypeId} {ps : String} {af : Array Edge} {g : Option (Nat × Bool)} {x y : Operand}
theorem blk_own {w : World} {F : List Chunk} {b : Nat} {t : TypeId} {cs : List Value} (hw : St w0 F w) (hm : blk b t cs ∈ F) : w0.heap.size ≤ b := (hw.2.1 _ hm).2 b rfl
theorem blk_lt {w : World} {F : List Chunk} {b : Nat} {t : TypeId} {cs : List Value} (hw : St w0 F w) (hm : blk b t cs ∈ F) : b < w.heap.size := hw.lt hm rfl
theorem PtrL.into {w : World} {F : List Chunk} {b : Nat} {us : List Value} (h : PtrL w0 [] ⟨b, 0, none⟩ us) (hb : b < w0.heap.size) (hw : St w0 F w) : PtrL w [] ⟨b, 0, none⟩ us := PtrL.old (Nat.lt_of_lt_of_le hb hw.1.size) (h F w (by simp) hw)
theorem PtrL.at_F {w : World} {F : List Chunk} {b : Nat} {us : List Value} {ch : Chunk} (h : PtrL w0 [ch] ⟨b, 0, none⟩ us) (hm : ch ∈ F) (hw : St w0 F w) (h0 : us ≠ []) : PtrL w [] ⟨b, 0, none⟩ us := by
  have hc := h F w (by intro c hc; simp at hc; subst hc; exact hm) hw
  refine PtrL.old ?_ hc
  cases us with
  | nil => exact absurd rfl h0
  | cons u us =>
    have := World.block_lt_of_cell? w _ (hc 0 u rfl)
    simpa [addr_block] using this
theorem permH {G : World → Prop} (hp : L.Perm L') (k : Hold w0 L' G) : Hold w0 L G := fun w hw => k w (hw.perm hp)
theorem lt_into {w : World} {F : List Chunk} {b : Nat} (hb : b < w0.heap.size) (hw : St w0 F w) : b < w.heap.size := Nat.lt_of_lt_of_le hb hw.1.size
theorem nilCheck {a : Addr} (hx : ev l x = .pointer (some a)) : Pure P ⟨d, .nilCheck x, ty, ps, af, g⟩ l (.pointer (some a)) := fun w => by
  simp [execOp, hx]
theorem slice_arr {t m0 e b o : Nat} (ha : ar P t = some (m0, e, 1)) (hx : ev l x = .pointer (some ⟨b, o, none⟩)) : Pure P ⟨d, .slice t x none none none, ty, ps, af, g⟩ l (.slice (some ⟨b, o, none⟩) m0 m0) := fun w => by
  obtain ⟨i, hu, hi, hn⟩ := ar_spec ha
  have e1 : P.elem t = e := by simp [Program.elem, hu]
  have e2 : P.arrayLen t = m0 := by simp [Program.arrayLen, hu]
  have := run_sliceAt_array_all (P := P) w t ⟨b, o, none⟩ (by rw [e1, e2]; exact hu)
  simp only [execOp, Option.map_none, hx, this, sizeOf, typeInfo, e1, e2, hi, hn, Sem.run_bind, run_program, Sem.run_pure, Result.andThen_ok, slicedAt, Nat.sub_zero, addr_add0, Nat.zero_mul, ite_self]
theorem PtrL.lit {b k : Nat} {us : List Value} (hp : PtrL w0 L ⟨b, 0, none⟩ us) : PtrL w0 L ⟨b, k, none⟩ (us.drop k) := by
  have := hp.fld (k := k)
  rwa [add_lit, Nat.zero_add] at this
theorem load_at {t b i : Nat} {us : List Value} {v : Value} (ho : one P t = true) (hx : ev l x = .pointer (some ⟨b, i, none⟩)) (hp : PtrL w0 L ⟨b, 0, none⟩ us) (hv : us[i]? = some v) : Sil P w0 L ⟨d, .load t x, ty, ps, af, g⟩ l v := by
  have h1 : PtrL w0 L ⟨b, i, none⟩ (us.drop i) := by
    have := hp.fld (k := i)
    rwa [add_lit, Nat.zero_add] at this
  obtain ⟨hi, hv'⟩ := List.getElem?_eq_some_iff.1 hv
  rw [List.drop_eq_getElem_cons hi, hv'] at h1
  exact load1 ho hx h1
/-- copy(p, s...) into a block of the call's own. -/
theorem copyS {E : Type} {M : List Chunk} {t t' ty' e b o n n' c : Nat} {te : TypeId} {A : Option Addr} {enc : E → List Value} {zs : List E} {cs : List Value} (ht : sl P t = some (e, 1)) (hx : ev l x = .slice (some ⟨b, o, none⟩) n n') (hy : ev l y = .slice A zs.length c)
    (hp : Sl w0 L A 1 enc zs) (hl : ∀ x, (enc x).length = 1) (h1 : (zs.flatMap enc).all Value.oneCell' = true) (h0 : 0 < zs.length) (hn : zs.length ≤ n) (hfit : o + zs.length ≤ cs.length)
    (hr : Rep (blk b te cs) (blk b te (cs.take o ++ zs.flatMap enc ++ cs.drop (o + zs.length))) L L') :
    Upd P w0 L ⟨d, .call { callee := .builtin .copy, args := #[x, y], argTypes := #[t, t'] }, ty', ps, af, g⟩ l (fun _ : Unit => True) (fun _ => .int .i64 zs.length) (fun _ => L') := fun w hw => by
  have hh : w.heap[b]? = some (.cells cs.toArray te (0, 0)) := (hw.2.1 _ hr.mem).1
  obtain ⟨i, hs, hi, hsz⟩ := sl_spec ht
  obtain ⟨a, rfl, _⟩ := hp 0 zs[0] (List.getElem?_eq_getElem h0)
  have hlen : (zs.flatMap enc).length = zs.length := by rw [flat_len hl, Nat.mul_one]
  have hrun := run_copy_row (P := P) w t t' ty' e b o n n' a zs.length c cs.toArray te (zs.flatMap enc) hs (by rw [hi]; simp [hsz]) hh (by rw [hlen]; exact (Nat.min_eq_left hn).symm)
    (hp.ptr hl (by decide) L w (fun _ h => h) hw) (by rw [hlen]; simpa using hfit) (fun v hv => List.all_eq_true.1 h1 v hv)
  rw [hlen] at hrun
  refine OpT.of_run (w' := w.setRow b (cs.take o ++ zs.flatMap enc ++ cs.drop (o + zs.length)).toArray) ?_ ⟨(), trivial, rfl, hw.upd hr (grownBy_setRow w b _) (fun k hk => by cases hk; rfl) (setRow_heap w b cs.toArray _ te (0, 0) hh) (fun k hk => .inl hk)⟩
  simp only [execOp, resolve, invoke, builtin, Sem.run_bind, Sem.run_pure, Result.andThen_ok, List.map_toArray, List.map_cons, List.map_nil, hx, hy, hrun]
  rfl
theorem quo_t {xt yt : TypeId} {m n : Int} (hx : ev l x = .int .i64 m) (hy : ev l y = .int .i64 n) (h0 : n ≠ 0) (h1 : -9223372036854775807 ≤ m ∧ m ≤ 9223372036854775807) :
    Pure P ⟨d, .binOp .quo xt x y yt, ty, ps, af, g⟩ l (.int .i64 (m.tdiv n)) := fun w => by
  have hb : (m.tdiv n).natAbs ≤ m.natAbs := by rw [Int.natAbs_tdiv]; exact Nat.div_le_self _ _
  have hw : IntKind.i64.wrap (m.tdiv n) = m.tdiv n := IntWalk.i64_in _ ⟨by omega, by omega⟩
  simp [execOp, hx, hy, eqGuard_quo, binOp_quo, Op.intDiv, h0, hw]
theorem rem_t {xt yt : TypeId} {m n : Int} (hx : ev l x = .int .i64 m) (hy : ev l y = .int .i64 n) (h0 : n ≠ 0) :
    Pure P ⟨d, .binOp .rem xt x y yt, ty, ps, af, g⟩ l (.int .i64 (m.tmod n)) := fun w => by
  simp [execOp, hx, hy, eqGuard_rem, binOp_rem, Op.intDiv, h0]
theorem neg_wrap {xt : TypeId} {k : IntKind} {m : Int} (hx : ev l x = .int k m) : Pure P ⟨d, .unOp .neg xt x, ty, ps, af, g⟩ l (.int k (k.wrap (0 - m))) := fun w => by
  simp [execOp, hx, Op.unary, Op.intArith]
theorem mul_wrap {xt yt : TypeId} {k : IntKind} {m n : Int} (hx : ev l x = .int k m) (hy : ev l y = .int k n) : Pure P ⟨d, .binOp .mul xt x y yt, ty, ps, af, g⟩ l (.int k (k.wrap (m * n))) := fun w => by
  simp [execOp, hx, hy, binOp, eqGuard, Op.intArith]
theorem res_ctt {fn : Func} {p t u : Tmp} {ty : TypeId} {b : Nat} {v : Value} (h : fn.results = #[.cell p ty, .tmp t, .tmp u]) (hp : nth l p = .pointer (some ⟨b, 0, none⟩)) {w : World} (hv : (loadVar ty ⟨b, 0, none⟩).run P w = .ok v w) :
    (results fn l.toArray).run P w = .ok (.tuple #[v, nth l t, nth l u]) w := by
  have hp' : l.toArray[p]?.getD undef = .pointer (some ⟨b, 0, none⟩) := by rw [← hp, nth_eq]; simp
  have ht : l.toArray[t]?.getD undef = nth l t := by rw [nth_eq]; simp
  have hu : l.toArray[u]?.getD undef = nth l u := by rw [nth_eq]; simp
  simp at hp' ht hu
  simp [results, h, hp', ht, hu, asAddr, hv]
theorem res_t4 {fn : Func} {t u v x : Tmp} (h : fn.results = #[.tmp t, .tmp u, .tmp v, .tmp x]) (w : World) : (results fn l.toArray).run P w = .ok (.tuple #[nth l t, nth l u, nth l v, nth l x]) w := by
  have ht : l.toArray[t]?.getD undef = nth l t := by rw [nth_eq]; simp
  have hu : l.toArray[u]?.getD undef = nth l u := by rw [nth_eq]; simp
  have hv : l.toArray[v]?.getD undef = nth l v := by rw [nth_eq]; simp
  have hx : l.toArray[x]?.getD undef = nth l x := by rw [nth_eq]; simp
  simp at ht hu hv hx
  simp [results, h, ht, hu, hv, hx]
theorem res_c5 {fn : Func} {p1 p2 p3 p4 p5 : Tmp} {t1 t2 t3 t4 t5 : TypeId} {b1 b2 b3 b4 b5 : Nat} {v1 v2 v3 v4 v5 : Value} (h : fn.results = #[.cell p1 t1, .cell p2 t2, .cell p3 t3, .cell p4 t4, .cell p5 t5]) (h1 : nth l p1 = .pointer (some ⟨b1, 0, none⟩)) (h2 : nth l p2 = .pointer (some ⟨b2, 0, none⟩)) (h3 : nth l p3 = .pointer (some ⟨b3, 0, none⟩)) (h4 : nth l p4 = .pointer (some ⟨b4, 0, none⟩)) (h5 : nth l p5 = .pointer (some ⟨b5, 0, none⟩)) {w : World}
    (e1 : (loadVar t1 ⟨b1, 0, none⟩).run P w = .ok v1 w) (e2 : (loadVar t2 ⟨b2, 0, none⟩).run P w = .ok v2 w) (e3 : (loadVar t3 ⟨b3, 0, none⟩).run P w = .ok v3 w) (e4 : (loadVar t4 ⟨b4, 0, none⟩).run P w = .ok v4 w) (e5 : (loadVar t5 ⟨b5, 0, none⟩).run P w = .ok v5 w) :
    (results fn l.toArray).run P w = .ok (.tuple #[v1, v2, v3, v4, v5]) w := by
  have q1 : l.toArray[p1]?.getD undef = .pointer (some ⟨b1, 0, none⟩) := by rw [← h1, nth_eq]; simp
  have q2 : l.toArray[p2]?.getD undef = .pointer (some ⟨b2, 0, none⟩) := by rw [← h2, nth_eq]; simp
  have q3 : l.toArray[p3]?.getD undef = .pointer (some ⟨b3, 0, none⟩) := by rw [← h3, nth_eq]; simp
  have q4 : l.toArray[p4]?.getD undef = .pointer (some ⟨b4, 0, none⟩) := by rw [← h4, nth_eq]; simp
  have q5 : l.toArray[p5]?.getD undef = .pointer (some ⟨b5, 0, none⟩) := by rw [← h5, nth_eq]; simp
  simp at q1 q2 q3 q4 q5
  simp [results, h, q1, q2, q3, q4, q5, asAddr, e1, e2, e3, e4, e5]
theorem or_int {xt yt : TypeId} {k : IntKind} {m n : Int} (hx : ev l x = .int k m) (hy : ev l y = .int k n) : Pure P ⟨d, .binOp .or xt x y yt, ty, ps, af, g⟩ l (.int k (k.wrap (BitVec.ofInt k.bits m ||| BitVec.ofInt k.bits n).toNat)) := fun w => by
  simp [execOp, hx, hy, eqGuard, binOp, Op.intBits]
end
end Go.K
