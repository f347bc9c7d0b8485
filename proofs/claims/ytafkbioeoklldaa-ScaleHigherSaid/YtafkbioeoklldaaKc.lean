/-
  The operations' rules, second part: new memory, stores, append, calls; regions that draw their order.
  No conditions: plain lemmas over any program.
-/
import Derived.Test.YtafkbioeoklldaaKb
set_option linter.unusedSimpArgs false
set_option linter.unusedVariables false
namespace Go.K
open Go.RowKit

def cl : Value → List Value
  | .agg a => a.toList
  | v => [v]
theorem cells_cl (v : Value) : v.cells.toList = cl v := by cases v <;> rfl

section
variable {P : Program} {w0 : World} {L L' : List Chunk} {l : List Value} {d : Option Tmp} {ty : TypeId} {ps : String} {af : Array Edge} {g : Option (Nat × Bool)}

/-! ### New memory -/
theorem box {t : TypeId} {x : Operand} : Loud P w0 L ⟨d, .box t x, ty, ps, af, g⟩ l (fun _ : Nat => True) (fun b => .pointer (some ⟨b, 0, none⟩)) (fun b => [blk b t (cl (ev l x))]) := fun F w _ hw => by
  refine OpT.of_run (w' := w.alloc (.cells (cl (ev l x)).toArray t)) ?_ ⟨w.heap.size, trivial, rfl, hw.new t (cl (ev l x))⟩
  rw [← cells_cl]
  simp [execOp, Instr.box, newVar, newRow]
theorem alloc {t : TypeId} {x : Value} (hz : zr P t = some x) : Loud P w0 L ⟨d, .alloc t, ty, ps, af, g⟩ l (fun _ : Nat => True) (fun b => .pointer (some ⟨b, 0, none⟩)) (fun b => [blk b t (cl x)]) := fun F w _ hw => by
  refine OpT.of_run (w' := w.alloc (.cells (cl x).toArray t)) ?_ ⟨w.heap.size, trivial, rfl, hw.new t (cl x)⟩
  rw [← cells_cl]
  simp [execOp, Instr.alloc, newVar, newRow, Sem.run_bind, zr_spec hz]
/-- A slice literal: its run, as a fact on the program's types. -/
def Bs (P : Program) (t : TypeId) (n : Nat) (parts : List (Nat × Value)) (e : TypeId) (cs : List Value) : Prop :=
  ∀ w, (Instr.buildSlice t n parts.toArray).run P w = .ok (.slice (some ⟨w.heap.size, 0, none⟩) n n) (w.alloc (.cells cs.toArray e))
theorem buildSlice {t n e : Nat} {parts : List (Nat × Operand)} {cs : List Value} (hb : Bs P t n (parts.map fun p => (p.1, ev l p.2)) e cs) :
    Loud P w0 L ⟨d, .buildSlice t n parts.toArray, ty, ps, af, g⟩ l (fun _ : Nat => True) (fun b => .slice (some ⟨b, 0, none⟩) n n) (fun b => [blk b e cs]) := fun F w _ hw => by
  refine OpT.of_run (w' := w.alloc (.cells cs.toArray e)) ?_ ⟨w.heap.size, trivial, rfl, hw.new e cs⟩
  have := hb w
  simp only [execOp, List.map_toArray, Sem.run_bind, this, Sem.run_pure, Result.andThen_ok]
/-- A struct or array literal: its run, as a fact on the program's types. -/
def Bl (P : Program) (t : TypeId) (parts : List (Nat × Value)) (v : Value) : Prop := ∀ w, (Instr.build t parts.toArray).run P w = .ok v w
theorem build {t : Nat} {parts : List (Nat × Operand)} {v : Value} (hb : Bl P t (parts.map fun p => (p.1, ev l p.2)) v) : Pure P ⟨d, .build t parts.toArray, ty, ps, af, g⟩ l v := fun w => by
  have := hb w
  simp only [execOp, List.map_toArray, Sem.run_bind, this, Sem.run_pure, Result.andThen_ok]

/-! ### Stores -/
def over (cs : List Value) : Nat → List Value → List Value
  | _, [] => cs
  | i, u :: us => over (setn cs i u) (i + 1) us
theorem over_eq : ∀ (us : List Value) (cs : List Value) (i : Nat), i + us.length ≤ cs.length → (over cs i us).toArray = (cs.take i ++ us ++ cs.drop (i + us.length)).toArray := by
  intro us
  induction us with
  | nil => intro cs i _; simp [over]
  | cons u us ih =>
    intro cs i h
    simp only [List.length_cons] at h
    rw [over, ih _ _ (by rw [setn_eq]; simp; omega), setn_eq]
    congr 1
    have hi : i < cs.length := by omega
    apply List.ext_getElem?
    intro j
    simp only [List.getElem?_append, List.getElem?_take, List.getElem?_drop, List.length_take, List.length_append, List.length_cons, List.getElem?_set, List.length_set, List.getElem?_cons]
    repeat' split
    all_goals (first | rfl | omega | (congr 1; omega) | (simp_all; done))
def sz (P : Program) (t : TypeId) : Option Nat := (P.info? t).map (·.size)
theorem grownBy_setRow (w : World) (b : Nat) (cs : Array Value) : w.grownBy (w.setRow b cs) (some b) :=
  ⟨rfl, rfl, rfl, by simp [World.setRow], fun k _ hne => by
    simp only [World.setRow, Array.getElem?_modify]
    rw [if_neg (fun e => hne (by rw [e]))]⟩
theorem store_ix {t n b i : Nat} {e : TypeId} {x y : Operand} {cs : List Value} (hn : sz P t = some n) (hx : ev l x = .pointer (some ⟨b, i, none⟩)) (hlen : (cl (ev l y)).length = n) (hfit : i + n ≤ cs.length)
    (h1 : (cl (ev l y)).all Value.oneCell' = true) (hr : Rep (blk b e cs) (blk b e (over cs i (cl (ev l y)))) L L') :
    Upd P w0 L ⟨d, .store t x y, ty, ps, af, g⟩ l (fun _ : Unit => True) (fun _ => undef) (fun _ => L') := fun w hw => by
  have hh : w.heap[b]? = some (.cells cs.toArray e (0, 0)) := (hw.2.1 _ hr.mem).1
  have hst := run_storeCells_at P b i e (cl (ev l y)) 0 cs.toArray w hh (by simp; omega) (by simpa using h1)
  simp only [Nat.add_zero] at hst
  rw [← over_eq _ _ _ (by omega)] at hst
  refine OpT.of_skip (w' := w.setRow b (over cs i (cl (ev l y))).toArray) ?_ ⟨(), trivial, rfl, hw.upd hr (grownBy_setRow w b _) (fun k hk => by cases hk; rfl) (setRow_heap w b cs.toArray _ e (0, 0) hh) (fun k hk => .inl hk)⟩
  unfold sz at hn
  cases hi : P.info? t with
  | none => simp [hi] at hn
  | some q =>
    have hs : q.size = n := by simpa [hi] using hn
    have hcs : (ev l y).cells.size = n := by rw [← hlen, ← cells_cl]; simp
    simp [execOp, hx, Instr.storeAt, Instr.sureAddr, storeVar, sizeOf, typeInfo, hi, hs, hcs, cells_cl, hst]

theorem store {t n b i : Nat} {e : TypeId} {x y : Operand} {cs : List Value} (hn : sz P t = some n) (hx : ev l x = .pointer (some ⟨b, i, none⟩)) (hlen : (cl (ev l y)).length = n) (hfit : Nat.ble (i + n) cs.length = true)
    (h1 : (cl (ev l y)).all Value.oneCell' = true) (hr : Rep (blk b e cs) (blk b e (over cs i (cl (ev l y)))) L L') :
    Upd P w0 L ⟨d, .store t x y, ty, ps, af, g⟩ l (fun _ : Unit => True) (fun _ => undef) (fun _ => L') := store_ix hn hx hlen (by simpa using hfit) h1 hr

/-! ### append -/
theorem nil_row {e : TypeId} {size : Nat} {G : World → Prop} (k : Hold w0 (row (.slice none 0 0) e size 0 [] :: L) G) : Hold w0 L G := fun w hw => k w ⟨hw.1, fun c hc => by
    rcases List.mem_cons.1 hc with rfl | hc
    · exact ⟨World.ownsRow_nil w 0 e size, fun k hk => by cases hk⟩
    · exact hw.2.1 c hc, List.pairwise_cons.2 ⟨fun c _ k hk => (by cases hk), hw.2.2⟩⟩
/-- The element type's row of the table, as one closed fact. -/
def el (P : Program) (t : TypeId) : Option (TypeId × Nat × Nat) :=
  match P.underlying t with
  | some (.slice e) => match P.info? e with
    | some i => match i.zero with
      | some z => if z.cells.size = i.size ∧ 0 < i.size then some (e, i.size, i.bytes) else none
      | none => none
    | none => none
  | _ => none
theorem el_spec {t e n b : Nat} (h : el P t = some (e, n, b)) : ∃ i z, P.underlying t = some (.slice e) ∧ P.info? e = some i ∧ i.zero = some z ∧ i.size = n ∧ i.bytes = b ∧ z.cells.size = n ∧ 0 < n := by
  unfold el at h
  split at h
  · rename_i e' hs
    split at h
    · rename_i i hi
      split at h
      · rename_i z hz
        split at h
        · rename_i hc
          simp only [Option.some.injEq, Prod.mk.injEq] at h
          obtain ⟨rfl, rfl, rfl⟩ := h
          exact ⟨i, z, hs, hi, hz, rfl, rfl, hc.1, hc.2⟩
        · cases h
      · cases h
    · cases h
  · cases h
theorem append {M : Nat → Nat → List Chunk} {t ty' e size bytes n m c c' : Nat} {A : Option Addr} {ad : Addr} {s x : Operand} {xs news : List Value} (ht : el P t = some (e, size, bytes)) (hs : ev l s = .slice A n c) (hx : ev l x = .slice (some ad) m c')
    (hp : PtrL w0 L ad news) (hl : news.length = m * size) (h1 : news.all Value.oneCell' = true) (hm : 0 < m) (hb : (n + m) * bytes ≤ 140737488355328) (hb' : n + m ≤ 140737488355328)
    (hr : ∀ b cap, Rep (row (.slice A n c) e size n xs) (row (.slice (some ⟨b, 0, none⟩) (n + m) cap) e size (n + m) (xs ++ news)) L (M b cap)) :
    Upd P w0 L ⟨d, .call { callee := .builtin .append, args := #[s, x], argTypes := #[t, t] }, ty', ps, af, g⟩ l (fun _ : Nat × Nat => True) (fun r => .slice (some ⟨r.1, 0, none⟩) (n + m) r.2) (fun r => M r.1 r.2) := fun w hw => by
  obtain ⟨i, z, hu, hi, hz, hsi, hby, hzs, hpos⟩ := el_spec ht
  have hown : w.ownsRow 0 e size (.slice A n c) n xs := (hw.2.1 _ (hr 0 0).mem).1
  obtain ⟨b, cap, w', hrun, h2, h3, h4, h5⟩ := run_append_lies (P := P) w t ty' 0 e i z size bytes hu hi hz hsi hby hzs hpos _ n xs hown ad m c' news hl (hp L w (fun _ h => h) hw) (by simpa using h1) hm (by simp only [maxLen]; omega) hb (Nat.zero_le _) _ rfl
  refine OpT.of_run (w' := w') ?_ ⟨(b, cap), trivial, rfl, hw.upd (hr b cap) h3 (fun k hk => hk) h2 (fun k hk => ?_)⟩
  · simp only [execOp, resolve, invoke, builtin, Sem.run_bind, Sem.run_pure, Result.andThen_ok, List.map_toArray, List.map_cons, List.map_nil, hs, hx, hrun]
  · have hk' : b = k := by simpa [row, Value.ownBlock] using hk
    subst hk'
    rcases h4 with h4 | h4
    · exact .inl h4
    · exact .inr (by omega)

/-! ### Calls -/
theorem run_call {f : FuncId} (hf : callable P f = true) (args : Array Value) (w : World) : (callFunc f args).run P w = .ok (.enter f args) w := by
  unfold callable at hf
  split at hf
  · rename_i fn hfn
    simp only [Bool.and_eq_true, Bool.not_eq_true'] at hf
    have hb : fn.body ≠ none := by intro h; rw [h] at hf; simp at hf
    have hn : fn.name ≠ "runtime.NumGoroutine" := by simpa using hf.1
    simp [callFunc, hfn, hn, hb]
  · cases hf
theorem call {ρ : Type} {ok : ρ → Prop} {val : ρ → Value} {D : ρ → List Chunk} {x : Operand} {args : List Operand} {f : FuncId} {first cap : List Value} {ts : Array TypeId} (hx : ev l x = .func (.func f) first.toArray cap.toArray) (hf : callable P f = true)
    (hc : ∀ F w, (∀ c ∈ L, c ∈ F) → St w0 F w → Calls P f (first ++ args.map (ev l) ++ cap).toArray w (Ret ok val D w)) :
    Loud P w0 L ⟨d, .call { callee := .value x, args := args.toArray, argTypes := ts }, ty, ps, af, g⟩ l ok val D := fun F w hF hw => by
  refine OpT.of_enter (w' := w) (f := f) (args := (first ++ args.map (ev l) ++ cap).toArray) ?_ ((hc F w hF hw).mono ?_)
  · have e : first.toArray ++ args.toArray.map (ev l) ++ cap.toArray = (first ++ args.map (ev l) ++ cap).toArray := by
      apply Array.toList_inj.1; simp
    simp only [execOp, resolve, hx, Deferred.ofValue, Sem.run_bind, Sem.run_pure, Result.andThen_ok, invoke, e, run_call hf]
  · rintro e w' ⟨r, hr, rfl, hb, hD⟩
    exact ⟨_, rfl, r, hr, rfl, hw.add hb hD⟩
theorem call_f {ρ : Type} {ok : ρ → Prop} {val : ρ → Value} {D : ρ → List Chunk} {args : List Operand} {f : FuncId} {ts : Array TypeId} (hf : callable P f = true)
    (hc : ∀ F w, (∀ c ∈ L, c ∈ F) → St w0 F w → Calls P f (args.map (ev l)).toArray w (Ret ok val D w)) :
    Loud P w0 L ⟨d, .call { callee := .value (.func f), args := args.toArray, argTypes := ts }, ty, ps, af, g⟩ l ok val D :=
  call (first := []) (cap := []) rfl hf (by simpa using hc)
/-- A call that only computes. -/
theorem Gives.ret {v : Value} {w : World} {e : Ending} {w' : World} (h : Gives v w e w') : Ret (fun _ : Unit => True) (fun _ => v) (fun _ => []) w e w' :=
  ⟨(), trivial, h.1, h.2, own_nil⟩
theorem call_g {args : List Operand} {f : FuncId} {ts : Array TypeId} {v : Value} (hf : callable P f = true)
    (hc : ∀ F w, (∀ c ∈ L, c ∈ F) → St w0 F w → Calls P f (args.map (ev l)).toArray w (Gives v w)) :
    Loud P w0 L ⟨d, .call { callee := .value (.func f), args := args.toArray, argTypes := ts }, ty, ps, af, g⟩ l (fun _ : Unit => True) (fun _ => v) (fun _ => []) :=
  call_f hf (fun F w hF hw => (hc F w hF hw).mono fun _ _ h => h.ret)
theorem callv_g {x : Operand} {args : List Operand} {f : FuncId} {first cap : List Value} {ts : Array TypeId} {v : Value} (hx : ev l x = .func (.func f) first.toArray cap.toArray) (hf : callable P f = true)
    (hc : ∀ F w, (∀ c ∈ L, c ∈ F) → St w0 F w → Calls P f (first ++ args.map (ev l) ++ cap).toArray w (Gives v w)) :
    Loud P w0 L ⟨d, .call { callee := .value x, args := args.toArray, argTypes := ts }, ty, ps, af, g⟩ l (fun _ : Unit => True) (fun _ => v) (fun _ => []) :=
  call hx hf (fun F w hF hw => (hc F w hF hw).mono fun _ _ h => h.ret)
section
variable {ops : Array Oper} {Q : Exit → Act → World → Prop} {rest : List Oper} {o : Oper}
theorem seq_call {v : Value} (h : Loud P w0 L o l (fun _ : Unit => True) (fun _ => v) (fun _ => [])) (hg : wantL ops.toList l o.guard = true) (k : Hold w0 L (wpList P ops Q rest (fr (setd l o.dst v)))) : Hold w0 L (wpList P ops Q (o :: rest) (fr l)) :=
  seq_loud h hg fun _ _ => k
theorem seq_st (h : Upd P w0 L o l (fun _ : Unit => True) (fun _ => undef) (fun _ => L')) (hg : wantL ops.toList l o.guard = true) (k : Hold w0 L' (wpList P ops Q rest (fr (setd l o.dst undef)))) : Hold w0 L (wpList P ops Q (o :: rest) (fr l)) :=
  seq_upd h hg fun _ _ => k
theorem seq_new {val : Nat → Value} {D : Nat → List Chunk} (h : Loud P w0 L o l (fun _ : Nat => True) val D) (hg : wantL ops.toList l o.guard = true) (k : ∀ b, Hold w0 (D b ++ L) (wpList P ops Q rest (fr (setd l o.dst (val b))))) : Hold w0 L (wpList P ops Q (o :: rest) (fr l)) :=
  seq_loud h hg fun b _ => k b
end
end
end Go.K
