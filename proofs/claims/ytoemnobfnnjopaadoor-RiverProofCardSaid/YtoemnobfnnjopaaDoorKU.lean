/-
  Plain lemmas and plain functions, several texts joined.
  Conditions stand in each theorem.
-/
import Derived.Test.YtoemnobfnnjopaaDoorK7
set_option linter.unusedSimpArgs false
set_option linter.unusedVariables false
/-
  Calls that turn what the caller owns; maps with numbers, asked and written.
  No conditions: plain lemmas over any program.
-/
namespace Go.K
open Go.RowKit
section
variable {P : Program} {w0 : World} {L L' : List Chunk} {l : List Value} {d : Option Tmp} {ty : TypeId} {ps : String} {af : Array Edge} {g : Option (Nat × Bool)}
/-- A call that turns chunks of the caller's: its value, and what is owned then. -/
def RetU {ρ : Type} (ok : ρ → Prop) (val : ρ → Value) (w0 : World) (L' : ρ → List Chunk) : Ending → World → Prop :=
  fun e w' => ∃ r, ok r ∧ e = .returned (val r) ∧ St w0 (L' r) w'
theorem enterU {P : Program} {f : FuncId} {fn : Func} {c : Code} {args : List Value} {n : Nat} {w0 w : World} {L : List Chunk} {R : Ending → World → Prop} (hf : P.funcs[f]? = some fn) (hb : fn.body = some c) (hn : fn.ntmps - args.length = n) (hw : St w0 L w)
    (k : Hold w0 L (c.wp P (bodyPost P fn R) (fr (args ++ List.replicate n undef)))) : Calls P f args.toArray w R := by
  refine calls_of_wp hf hb ?_
  have h1 := k w hw
  subst hn
  have e : args.toArray ++ Array.replicate (fn.ntmps - args.toArray.size) undef = (args ++ List.replicate (fn.ntmps - args.length) undef).toArray := by
    apply Array.toList_inj.1; simp
  rw [e]
  exact h1
theorem retsU {ρ : Type} {ok : ρ → Prop} {val : ρ → Value} {D : ρ → List Chunk} {v : Value} (r : ρ) (hok : ok r) (hv : v = val r) (hD : List.Sublist (D r) L) : Hold w0 L (RetU ok val w0 D (.returned v)) :=
  fun _ hw => ⟨r, hok, by rw [hv], hw.sub hD⟩
theorem callU {ρ : Type} {ok : ρ → Prop} {val : ρ → Value} {D : ρ → List Chunk} {x : Operand} {args : List Operand} {f : FuncId} {first cap : List Value} {ts : Array TypeId} (hx : ev l x = .func (.func f) first.toArray cap.toArray) (hf : callable P f = true)
    (hc : ∀ w, St w0 L w → Calls P f (first ++ args.map (ev l) ++ cap).toArray w (RetU ok val w0 D)) :
    Upd P w0 L ⟨d, .call { callee := .value x, args := args.toArray, argTypes := ts }, ty, ps, af, g⟩ l ok val D := fun w hw => by
  refine OpT.of_enter (w' := w) (f := f) (args := (first ++ args.map (ev l) ++ cap).toArray) ?_ ((hc w hw).mono ?_)
  · have e : first.toArray ++ args.toArray.map (ev l) ++ cap.toArray = (first ++ args.map (ev l) ++ cap).toArray := by
      apply Array.toList_inj.1; simp
    simp only [execOp, resolve, hx, Deferred.ofValue, Sem.run_bind, Sem.run_pure, Result.andThen_ok, invoke, e, run_call hf]
  · rintro e w' ⟨r, hr, rfl, hb⟩
    exact ⟨_, rfl, r, hr, rfl, hb⟩
theorem callU_f {ρ : Type} {ok : ρ → Prop} {val : ρ → Value} {D : ρ → List Chunk} {args : List Operand} {f : FuncId} {ts : Array TypeId} (hf : callable P f = true)
    (hc : ∀ w, St w0 L w → Calls P f (args.map (ev l)).toArray w (RetU ok val w0 D)) :
    Upd P w0 L ⟨d, .call { callee := .value (.func f), args := args.toArray, argTypes := ts }, ty, ps, af, g⟩ l ok val D :=
  callU (first := []) (cap := []) rfl hf (by simpa using hc)
/-- What a contract with nothing of the caller's gives, beside chunks that stay. -/
theorem Ret.toU {ρ : Type} {ok : ρ → Prop} {val : ρ → Value} {D : ρ → List Chunk} {w w' : World} {e : Ending} (hw : St w0 L w) (h : Ret ok val D w e w') : RetU ok val w0 (fun r => D r ++ L) e w' := by
  obtain ⟨r, h1, h2, h3, h4⟩ := h
  exact ⟨r, h1, h2, hw.add h3 h4⟩
variable {t kt b : Nat} {kvs : List (Value × Int)} {key : Value} {bo : Option (Nat × Nat)}
theorem lookupOk_mq {x y : Operand} (hM : MapT P t kt) (hx : ev l x = .map (some b)) (hy : ev l y = key) (hm : mq b bo kvs ∈ L) (hk : ∃ q, keyOf P kt key = some q) (hks : ∀ p ∈ kvs, ∃ q, keyOf P kt p.1 = some q) :
    Loud P w0 L ⟨d, .lookup t x y true, ty, ps, af, g⟩ l (fun r : Int × Bool => (r.2 = false ∧ r.1 = 0 ∧ ∀ p ∈ kvs, p.1 ≠ key) ∨ (r.2 = true ∧ (key, r.1) ∈ kvs)) (fun r => .tuple #[.int .i64 r.1, .bool r.2]) (fun _ => []) := fun F w hF hw => by
  obtain ⟨es, clock, h1, h2, h3, h4, h6⟩ := (hw.2.1 _ (hF _ hm)).1
  obtain ⟨e, hu, hz⟩ := hM.u
  obtain ⟨q, hq⟩ := hk
  have hall := mq_keys (P := P) (kt := kt) h2 hks
  have hc := hM.law.check w es.isEmpty hq
  rcases hM.law.find w hq es.toList hall with ⟨hf, hne⟩ | ⟨j, e0, hf, he, hkey⟩
  · refine OpT.of_run (v := .tuple #[.int .i64 0, .bool false]) (w' := w) ?_ ⟨(0, false), .inl ⟨rfl, rfl, mq_none h2 hne⟩, rfl, hw⟩
    simp [execOp, hx, hy, Instr.lookup, run_underlying hu, MapKept.run_getObj_map h1, hc, hf, hz, Result.andThen]
  · obtain ⟨n, hn0, hn⟩ := mq_at h2 he
    refine OpT.of_run (v := .tuple #[.int .i64 n, .bool true]) (w' := w) ?_ ⟨(n, true), .inr ⟨rfl, by rw [← hkey]; exact List.mem_of_getElem? hn0⟩, rfl, hw⟩
    simp [execOp, hx, hy, Instr.lookup, run_underlying hu, MapKept.run_getObj_map h1, hc, hf, hn, Result.andThen]
/-- A key with a number, put into what is held. -/
def PutQ (kvs : List (Value × Int)) (key : Value) (v : Int) (kvs' : List (Value × Int)) : Prop :=
  ((∀ p ∈ kvs, p.1 ≠ key) ∧ kvs' = kvs ++ [(key, v)]) ∨ ∃ j n, kvs[j]? = some (key, n) ∧ kvs' = kvs.set j (key, v)
theorem mapUpdate_mq {x y z : Operand} {v : Int} {M' : List (Value × Int) → List Chunk} (hM : MapT P t kt) (hx : ev l x = .map (some b)) (hy : ev l y = key) (hz : ev l z = .int .i64 v) (hk : ∃ q, keyOf P kt key = some q) (hks : ∀ p ∈ kvs, ∃ q, keyOf P kt p.1 = some q)
    (hr : ∀ kvs', Rep (mq b none kvs) (mq b none kvs') L (M' kvs')) :
    Upd P w0 L ⟨d, .mapUpdate t x y z, ty, ps, af, g⟩ l (fun kvs' => PutQ kvs key v kvs') (fun _ => undef) M' := fun w hw => by
  obtain ⟨es, clock, h1, h2, h3, h4, h6⟩ := (hw.2.1 _ (hr []).mem).1
  obtain ⟨e, hu, _⟩ := hM.u
  obtain ⟨q, hq⟩ := hk
  have hall := mq_keys (P := P) (kt := kt) h2 hks
  have hlen : es.toList.length = kvs.length := by simpa using congrArg List.length h2
  have hc := hM.law.check w false hq
  have hst := hM.law.stays w hq
  rcases hM.law.find w hq es.toList hall with ⟨hf, hne⟩ | ⟨j, e0, hf, he, hkey⟩
  · refine OpT.of_skip (w' := { w with heap := w.heap.setIfInBounds b (.map (es.push ⟨key, .int .i64 v, clock⟩) (clock + 1)) }) ?_ ⟨kvs ++ [(key, v)], .inl ⟨mq_none h2 hne, rfl⟩, rfl, ?_⟩
    · simp [execOp, hx, hy, hz, Instr.mapUpdate, run_underlying hu, MapKept.run_getObj_map h1, hc, hf, MapKept.run_setObj_map _ h1, Result.andThen]
    · refine hw.upd (hr _) (grownBy_setMap w b _) (fun k hk => by cases hk; rfl) ⟨_, _, map_set h1, ?_, ?_, ?_, by simp⟩ (fun k hk => .inl hk)
      · simp [h2]
      · simp only [Array.toList_push, List.map_append, List.map_cons, List.map_nil]
        refine List.nodup_append.2 ⟨h3, by simp, fun a ha c hc he => ?_⟩
        obtain ⟨e1, he1, rfl⟩ := List.mem_map.1 ha
        simp at hc
        have := h4 e1 he1
        omega
      · intro e1 he1
        simp only [Array.toList_push, List.mem_append, List.mem_singleton] at he1
        rcases he1 with he1 | rfl
        · have := h4 e1 he1; omega
        · simp
  · obtain ⟨n, hn0, hn⟩ := mq_at h2 he
    have he' : es[j]? = some e0 := by simpa using he
    have hm : ∀ k, ((es.modify j fun e => { e with key := key, val := .int .i64 v }).toList)[k]? = (es.toList[k]?).map fun e => if j = k then { e with key := key, val := .int .i64 v } else e := fun k => by
      simp only [Array.toList_modify, List.getElem?_modify]
      split <;> rename_i h <;> simp [h]
    have hborn : (es.modify j fun e => { e with key := key, val := .int .i64 v }).toList.map (·.born) = es.toList.map (·.born) := by
      apply List.ext_getElem?
      intro k
      rw [List.getElem?_map, hm, List.getElem?_map, Option.map_map]
      congr 1
      funext e
      simp only [Function.comp]
      split <;> rfl
    refine OpT.of_skip (w' := { w with heap := w.heap.setIfInBounds b (.map (es.modify j fun e => { e with key := key, val := .int .i64 v }) clock) }) ?_ ⟨kvs.set j (key, v), .inr ⟨j, n, by rw [hn0, hkey], rfl⟩, rfl, ?_⟩
    · simp [execOp, hx, hy, hz, Instr.mapUpdate, run_underlying hu, MapKept.run_getObj_map h1, hc, hf, he', hkey, hst, MapKept.run_setObj_map _ h1, Result.andThen]
    · refine hw.upd (hr _) (grownBy_setMap w b _) (fun k hk => by cases hk; rfl) ⟨_, _, map_set h1, ?_, by rw [hborn]; exact h3, ?_, by simp⟩ (fun k hk => .inl hk)
      · apply List.ext_getElem?
        intro k
        have h7 := congrArg (fun l => l[k]?) h2
        simp only [List.getElem?_map] at h7
        rw [List.getElem?_map, hm, List.getElem?_map, Option.map_map]
        by_cases hjk : j = k
        · subst hjk
          have hjl : j < kvs.length := (List.getElem?_eq_some_iff.1 hn0).1
          rw [he, List.getElem?_set_self hjl]; simp
        · rw [List.getElem?_set_ne hjk, ← h7]
          cases es.toList[k]? with
          | none => rfl
          | some e1 => simp [hjk]
      · intro e1 he1
        have h8 : e1.born ∈ es.toList.map (·.born) := by rw [← hborn]; exact List.mem_map_of_mem he1
        obtain ⟨e2, he2, hh⟩ := List.mem_map.1 h8
        have := h4 e2 he2
        omega
end
end Go.K
