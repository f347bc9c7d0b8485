/-
  The operations' rules for the small logic of Ka: what each kind of operation gives, from facts on the program's types that are closed equations.
  No conditions: plain lemmas over any program.
-/
import Derived.Test.YtafkbioeoklldaaKa
import Derived.Deep.AppendLies
import Derived.IntWalk
set_option linter.unusedSimpArgs false
set_option linter.unusedVariables false
namespace Go.K
open Go.RowKit

/-! ### The program's types, as closed facts -/
def fo (P : Program) (s f : Nat) : Option Nat :=
  match P.underlying s with
  | some (.struct fs) => match fs[f]? with
    | some x => match P.info? x.type with
      | some i => if i.size = 0 then none else some x.offset
      | none => none
    | none => none
  | _ => none
def sl (P : Program) (t : TypeId) : Option (TypeId × Nat) :=
  match P.underlying t with
  | some (.slice e) => match P.info? e with
    | some i => some (e, i.size)
    | none => none
  | _ => none
def ar (P : Program) (t : TypeId) : Option (Nat × TypeId × Nat) :=
  match P.underlying t with
  | some (.array n e) => match P.info? e with
    | some i => some (n, e, i.size)
    | none => none
  | _ => none
def one (P : Program) (t : TypeId) : Bool :=
  match P.underlying t with
  | some (.struct _) | some (.array ..) | none => false
  | some _ => (P.info? t).any (·.size == 1)
def ag (P : Program) (t : TypeId) : Option Nat :=
  match P.underlying t with
  | some (.struct _) | some (.array ..) => (P.info? t).map (·.size)
  | _ => none
def zr (P : Program) (t : TypeId) : Option Value := (P.info? t).bind (·.zero)
def callable (P : Program) (f : FuncId) : Bool :=
  match P.funcs[f]? with
  | some fn => !(fn.name == "runtime.NumGoroutine") && fn.body.isSome
  | none => false

section
variable {P : Program}
theorem fo_spec {s f off : Nat} (h : fo P s f = some off) : ∃ fs x i, P.underlying s = some (.struct fs) ∧ fs[f]? = some x ∧ P.info? x.type = some i ∧ i.size ≠ 0 ∧ x.offset = off := by
  unfold fo at h
  split at h
  · rename_i fs hs
    split at h
    · rename_i x hx
      split at h
      · rename_i i hi
        split at h
        · cases h
        · rename_i h0
          exact ⟨fs, x, i, hs, hx, hi, h0, by simpa using h⟩
      · cases h
    · cases h
  · cases h
theorem sl_spec {t e n : Nat} (h : sl P t = some (e, n)) : ∃ i, P.underlying t = some (.slice e) ∧ P.info? e = some i ∧ i.size = n := by
  unfold sl at h
  split at h
  · rename_i e' hs
    split at h
    · rename_i i hi
      simp only [Option.some.injEq, Prod.mk.injEq] at h
      obtain ⟨rfl, rfl⟩ := h
      exact ⟨i, hs, hi, rfl⟩
    · cases h
  · cases h
theorem ar_spec {t m e n : Nat} (h : ar P t = some (m, e, n)) : ∃ i, P.underlying t = some (.array m e) ∧ P.info? e = some i ∧ i.size = n := by
  unfold ar at h
  split at h
  · rename_i m' e' hs
    split at h
    · rename_i i hi
      simp only [Option.some.injEq, Prod.mk.injEq] at h
      obtain ⟨rfl, rfl, rfl⟩ := h
      exact ⟨i, hs, hi, rfl⟩
    · cases h
  · cases h
theorem run_isAgg_one {t : TypeId} (h : one P t = true) (w : World) : (isAgg t).run P w = .ok false w ∧ ∃ i, P.info? t = some i ∧ i.size = 1 := by
  unfold one at h
  split at h
  · cases h
  · cases h
  · cases h
  · rename_i d h1 h2 hd
    refine ⟨?_, ?_⟩
    · unfold isAgg
      rw [Sem.run_bind, run_underlying hd w]
      cases d <;> first | rfl | (exfalso; exact h1 _ rfl) | (exfalso; exact h2 _ _ rfl)
    · cases hi : P.info? t with
      | none => simp [hi] at h
      | some i => exact ⟨i, rfl, by simpa [hi] using h⟩
theorem run_isAgg_ag {t n : Nat} (h : ag P t = some n) (w : World) : (isAgg t).run P w = .ok true w ∧ ∃ i, P.info? t = some i ∧ i.size = n := by
  unfold ag at h
  split at h
  · rename_i fs hd
    refine ⟨by unfold isAgg; rw [Sem.run_bind, run_underlying hd w]; rfl, ?_⟩
    cases hi : P.info? t with
    | none => simp [hi] at h
    | some i => exact ⟨i, rfl, by simpa [hi] using h⟩
  · rename_i m e hd
    refine ⟨by unfold isAgg; rw [Sem.run_bind, run_underlying hd w]; rfl, ?_⟩
    cases hi : P.info? t with
    | none => simp [hi] at h
    | some i => exact ⟨i, rfl, by simpa [hi] using h⟩
  · cases h
theorem zr_spec {t : TypeId} {z : Value} (h : zr P t = some z) (w : World) : (zeroValue t).run P w = .ok z w := by
  unfold zr at h
  cases hi : P.info? t with
  | none => simp [hi] at h
  | some i =>
    have hz : i.zero = some z := by simpa [hi] using h
    simp [zeroValue, typeInfo, hi, hz]
end

/-! ### Operations that touch no memory -/
section
variable {P : Program} {l : List Value} {d : Option Tmp} {ty : TypeId} {ps : String} {af : Array Edge} {g : Option (Nat × Bool)}
theorem move {x : Operand} : Pure P ⟨d, .move x, ty, ps, af, g⟩ l (ev l x) := fun _ => rfl
theorem assign {x : Operand} : Pure P ⟨d, .assign x, ty, ps, af, g⟩ l (ev l x) := fun _ => rfl
theorem pick {c x y : Operand} {t : Bool} (hc : ev l c = .bool t) : Pure P ⟨d, .pick c x y, ty, ps, af, g⟩ l (if t then ev l x else ev l y) := fun w => by
  simp [execOp, hc, asBool]
theorem pick_t {c x y : Operand} (hc : ev l c = .bool true) : Pure P ⟨d, .pick c x y, ty, ps, af, g⟩ l (ev l x) := pick hc
theorem pick_f {c x y : Operand} (hc : ev l c = .bool false) : Pure P ⟨d, .pick c x y, ty, ps, af, g⟩ l (ev l y) := pick hc
theorem extract {x : Operand} {i : Nat} {vs : List Value} (hx : ev l x = .tuple vs.toArray) (hi' : Nat.blt i vs.length = true) : Pure P ⟨d, .extract x i, ty, ps, af, g⟩ l (nth vs i) := fun w => by
  have hi : i < vs.length := by simpa using hi'
  have : vs[i]? = some (nth vs i) := by rw [nth_eq]; simp [hi]
  simp [execOp, hx, Instr.extract, this]
theorem add_lit (b i off : Nat) : (⟨b, i, none⟩ : Addr).add off = ⟨b, i + off, none⟩ := by
  unfold Addr.add; split <;> simp_all
theorem run_fieldAt {s f off : Nat} (h : fo P s f = some off) (a : Addr) (w : World) : (Instr.fieldAt s (.pointer (some a)) f).run P w = .ok (.pointer (some (a.add off))) w := by
  obtain ⟨fs, x, i, hs, hx, hi, h0, rfl⟩ := fo_spec h
  simp [Instr.fieldAt, Sem.run_bind, run_underlying hs w, hx, Instr.sureAddr, fieldPlace, sizeOf, typeInfo, hi, h0]
theorem fieldAddr {s f off : Nat} {x : Operand} {a : Addr} (h : fo P s f = some off) (hx : ev l x = .pointer (some a)) : Pure P ⟨d, .fieldAddr s x f, ty, ps, af, g⟩ l (.pointer (some (a.add off))) := fun w => by
  simp [execOp, hx, run_fieldAt h]
theorem fieldAddr_lit {s f off : Nat} {x : Operand} {b i : Nat} (h : fo P s f = some off) (hx : ev l x = .pointer (some ⟨b, i, none⟩)) : Pure P ⟨d, .fieldAddr s x f, ty, ps, af, g⟩ l (.pointer (some ⟨b, i + off, none⟩)) := by
  rw [← add_lit]; exact fieldAddr h hx
theorem indexAddr_sl {t e n : Nat} {x y : Operand} {a : Addr} {len cap : Nat} {k : IntKind} {z : Int} (h : sl P t = some (e, n)) (hx : ev l x = .slice (some a) len cap) (hy : ev l y = .int k z) (h0 : 0 ≤ z) (h1 : z < len) :
    Pure P ⟨d, .indexAddr t x y, ty, ps, af, g⟩ l (.pointer (some (a.add (z.toNat * n)))) := fun w => by
  obtain ⟨i, hs, hi, rfl⟩ := sl_spec h
  simp [execOp, hx, hy, Instr.indexAt, asIntOf, Sem.run_bind, run_underlying hs w, h0, h1, sizeOf, typeInfo, hi]
theorem indexAddr_ar {t m e n : Nat} {x y : Operand} {b o : Nat} {k : IntKind} {z : Int} (h : ar P t = some (m, e, n)) (hx : ev l x = .pointer (some ⟨b, o, none⟩)) (hy : ev l y = .int k z) (h0 : 0 ≤ z) (h1 : z < m) :
    Pure P ⟨d, .indexAddr t x y, ty, ps, af, g⟩ l (.pointer (some ⟨b, o + z.toNat * n, none⟩)) := fun w => by
  obtain ⟨i, hs, hi, rfl⟩ := ar_spec h
  simp [execOp, hx, hy, Instr.indexAt, Instr.sureAddr, asIntOf, Sem.run_bind, run_underlying hs w, h0, h1, sizeOf, typeInfo, hi, add_lit]
theorem run_index_ar {t m e : Nat} (h : ar P t = some (m, e, 1)) (ho : one P e = true) {cs : List Value} {k : IntKind} {z : Int} (h0 : 0 ≤ z) (h1 : z < m) (hl : cs.length = m) (w : World) :
    (Instr.index t (.agg cs.toArray) (.int k z)).run P w = .ok (nth cs z.toNat) w := by
  obtain ⟨i, hs, hi, hs1⟩ := ar_spec h
  have hlt : z.toNat < cs.length := by omega
  have : cs[z.toNat]? = some (nth cs z.toNat) := by rw [nth_eq]; simp [hlt]
  simp [Instr.index, asIntOf, Sem.run_bind, run_underlying hs w, h0, h1, sizeOf, typeInfo, hi, hs1, part, (run_isAgg_one ho w).1, this]
theorem len_sl {t ty' e n : Nat} {x : Operand} {a : Option Addr} {len cap : Nat} (h : sl P t = some (e, n)) (hx : ev l x = .slice a len cap) :
    Pure P ⟨d, .call { callee := .builtin .len, args := #[x], argTypes := #[t] }, ty', ps, af, g⟩ l (.int .i64 len) := fun w => by
  obtain ⟨i, hs, hi, rfl⟩ := sl_spec h
  simp [execOp, resolve, invoke, builtin, hx, Builtin.len_, Sem.run_bind, run_underlying hs w, goInt]
theorem max_int {ty' : Nat} {ts : Array TypeId} {x y : Operand} {k k' : IntKind} {m n : Int} (hx : ev l x = .int k m) (hy : ev l y = .int k' n) :
    Pure P ⟨d, .call { callee := .builtin .max, args := #[x, y], argTypes := ts }, ty', ps, af, g⟩ l (.int k (max m n)) := fun w => by
  have : (if n > m then n else m) = max m n := by split <;> omega
  simp [execOp, resolve, invoke, builtin, hx, hy, Builtin.max_, Builtin.max2, this]
theorem min_int {ty' : Nat} {ts : Array TypeId} {x y : Operand} {k k' : IntKind} {m n : Int} (hx : ev l x = .int k m) (hy : ev l y = .int k' n) :
    Pure P ⟨d, .call { callee := .builtin .min, args := #[x, y], argTypes := ts }, ty', ps, af, g⟩ l (.int k (min m n)) := fun w => by
  have : (if n < m then n else m) = min m n := by split <;> omega
  simp [execOp, resolve, invoke, builtin, hx, hy, Builtin.min_, Builtin.min2, this]
theorem not_ {xt : TypeId} {x : Operand} {b : Bool} (hx : ev l x = .bool b) : Pure P ⟨d, .unOp .not xt x, ty, ps, af, g⟩ l (.bool !b) := fun w => by
  simp [execOp, hx, Op.unary]
theorem neg_i64 {xt : TypeId} {x : Operand} {m : Int} (hx : ev l x = .int .i64 m) (h : -9223372036854775807 ≤ m ∧ m ≤ 9223372036854775807) : Pure P ⟨d, .unOp .neg xt x, ty, ps, af, g⟩ l (.int .i64 (-m)) := fun w => by
  have : IntKind.i64.wrap (0 - m) = -m := by rw [IntWalk.i64_in _ (by omega)]; omega
  simp only [execOp, hx, Op.unary, Op.intArith, this, Sem.run_bind, Sem.run_pure, Result.andThen_ok]
theorem mkFunc {fn : Fn} {first cap : List Operand} : Pure P ⟨d, .makeFunc fn first.toArray cap.toArray, ty, ps, af, g⟩ l (.func fn (first.map (ev l)).toArray (cap.map (ev l)).toArray) := fun w => by
  simp [execOp, Instr.makeFunc]

/-! Arithmetic of int (its kind i64), where nothing wraps -/
theorem add_i64 {xt yt : TypeId} {x y : Operand} {m n : Int} (hx : ev l x = .int .i64 m) (hy : ev l y = .int .i64 n) (h : -9223372036854775808 ≤ m + n ∧ m + n ≤ 9223372036854775807) :
    Pure P ⟨d, .binOp .add xt x y yt, ty, ps, af, g⟩ l (.int .i64 (m + n)) := fun w => by
  simp only [execOp, hx, hy, eqGuard_add, binOp_add, Op.intArith, IntWalk.i64_in _ h, Sem.run_bind, Sem.run_pure, Result.andThen_ok]
theorem sub_i64 {xt yt : TypeId} {x y : Operand} {m n : Int} (hx : ev l x = .int .i64 m) (hy : ev l y = .int .i64 n) (h : -9223372036854775808 ≤ m - n ∧ m - n ≤ 9223372036854775807) :
    Pure P ⟨d, .binOp .sub xt x y yt, ty, ps, af, g⟩ l (.int .i64 (m - n)) := fun w => by
  simp only [execOp, hx, hy, eqGuard_sub, binOp_sub, Op.intArith, IntWalk.i64_in _ h, Sem.run_bind, Sem.run_pure, Result.andThen_ok]
theorem mul_i64 {xt yt : TypeId} {x y : Operand} {m n : Int} (hx : ev l x = .int .i64 m) (hy : ev l y = .int .i64 n) (h : -9223372036854775808 ≤ m * n ∧ m * n ≤ 9223372036854775807) :
    Pure P ⟨d, .binOp .mul xt x y yt, ty, ps, af, g⟩ l (.int .i64 (m * n)) := fun w => by
  simp only [execOp, hx, hy, eqGuard_mul, binOp_mul, Op.intArith, IntWalk.i64_in _ h, Sem.run_bind, Sem.run_pure, Result.andThen_ok]
theorem quo_i64 {xt yt : TypeId} {x y : Operand} {m n : Int} (hx : ev l x = .int .i64 m) (hy : ev l y = .int .i64 n) (h0 : 0 ≤ m) (h1 : 0 < n) (h2 : m ≤ 9223372036854775807) :
    Pure P ⟨d, .binOp .quo xt x y yt, ty, ps, af, g⟩ l (.int .i64 (m / n)) := fun w => by
  have hd : m.tdiv n = m / n := Int.tdiv_eq_ediv_of_nonneg h0
  have hb : 0 ≤ m / n := Int.ediv_nonneg h0 (by omega)
  have hb' : m / n ≤ m := Int.ediv_le_self n h0
  have hw : IntKind.i64.wrap (m / n) = m / n := IntWalk.i64_in _ ⟨by omega, by omega⟩
  simp [execOp, hx, hy, eqGuard_quo, binOp_quo, Op.intDiv, show n ≠ 0 by omega, hd, hw]
theorem rem_i64 {xt yt : TypeId} {x y : Operand} {m n : Int} (hx : ev l x = .int .i64 m) (hy : ev l y = .int .i64 n) (h0 : 0 ≤ m) (h1 : 0 < n) :
    Pure P ⟨d, .binOp .rem xt x y yt, ty, ps, af, g⟩ l (.int .i64 (m % n)) := fun w => by
  have hd : m.tmod n = m % n := Int.tmod_eq_emod_of_nonneg h0
  simp [execOp, hx, hy, eqGuard_rem, binOp_rem, Op.intDiv, show n ≠ 0 by omega, hd]
section
variable {xt yt : TypeId} {x y : Operand} {k : IntKind} {m n : Int}
theorem eql (hx : ev l x = .int k m) (hy : ev l y = .int k n) : Pure P ⟨d, .binOp .eql xt x y yt, ty, ps, af, g⟩ l (.bool (decide (m = n))) := fun w => by
  simp [execOp, hx, hy, eqGuard_at_int, binOp_eql]; rfl
theorem neq (hx : ev l x = .int k m) (hy : ev l y = .int k n) : Pure P ⟨d, .binOp .neq xt x y yt, ty, ps, af, g⟩ l (.bool (decide (m ≠ n))) := fun w => by
  have : (m != n) = decide (m ≠ n) := by rw [Bool.eq_iff_iff]; simp
  simp [execOp, hx, hy, eqGuard_at_int, binOp_neq, this]
theorem lss (hx : ev l x = .int k m) (hy : ev l y = .int k n) : Pure P ⟨d, .binOp .lss xt x y yt, ty, ps, af, g⟩ l (.bool (decide (m < n))) := fun w => by
  simp [execOp, hx, hy, eqGuard_lss, binOp_lss]
theorem leq (hx : ev l x = .int k m) (hy : ev l y = .int k n) : Pure P ⟨d, .binOp .leq xt x y yt, ty, ps, af, g⟩ l (.bool (decide (m ≤ n))) := fun w => by
  simp [execOp, hx, hy, eqGuard_leq, binOp_leq]
theorem gtr (hx : ev l x = .int k m) (hy : ev l y = .int k n) : Pure P ⟨d, .binOp .gtr xt x y yt, ty, ps, af, g⟩ l (.bool (decide (m > n))) := fun w => by
  simp [execOp, hx, hy, eqGuard_gtr, binOp_gtr]
theorem geq (hx : ev l x = .int k m) (hy : ev l y = .int k n) : Pure P ⟨d, .binOp .geq xt x y yt, ty, ps, af, g⟩ l (.bool (decide (m ≥ n))) := fun w => by
  simp [execOp, hx, hy, eqGuard_geq, binOp_geq]
end
theorem Pure.bool {o : Oper} {c b : Bool} (h : Pure P o l (.bool c)) (e : c = b) : Pure P o l (.bool b) := e ▸ h
theorem Pure.eq {o : Oper} {v u : Value} (h : Pure P o l v) (e : v = u) : Pure P o l u := e ▸ h
end

/-! ### Memory that is read -/
/-- From p on lie the cells us, as long as L is owned. -/
def PtrL (w0 : World) (L : List Chunk) (p : Addr) (us : List Value) : Prop :=
  ∀ F w, (∀ c ∈ L, c ∈ F) → St w0 F w → ∀ j u, us[j]? = some u → w.cell? (p.add j) = some u
theorem addr_add_add (a : Addr) (i j : Nat) : (a.add i).add j = a.add (i + j) := by
  unfold Addr.add
  by_cases hi : i = 0 <;> by_cases hj : j = 0 <;> simp [hi, hj, Nat.add_assoc]
theorem addr_block (a : Addr) (n : Nat) : (a.add n).block = a.block := by unfold Addr.add; split <;> rfl
section
variable {P : Program} {w0 : World} {L L' : List Chunk} {p : Addr} {us : List Value}
theorem PtrL.mono (h : PtrL w0 L p us) (hs : ∀ c ∈ L, c ∈ L') : PtrL w0 L' p us := fun F w hF hw => h F w (fun c hc => hF c (hs c hc)) hw
theorem PtrL.any (h : PtrL w0 [] p us) : PtrL w0 L p us := h.mono (by simp)
theorem PtrL.fld (h : PtrL w0 L p us) {k : Nat} : PtrL w0 L (p.add k) (us.drop k) := fun F w hF hw j u hu => by
  rw [addr_add_add]
  exact h F w hF hw _ u (by rw [← hu, List.getElem?_drop])
theorem PtrL.cut (h : PtrL w0 L p us) (n : Nat) : PtrL w0 L p (us.take n) := fun F w hF hw j u hu => h F w hF hw j u (by
  rw [List.getElem?_take] at hu; split at hu
  · exact hu
  · cases hu)
/-- What lay there before the call lies there still. -/
theorem PtrL.old (hb : p.block < w0.heap.size) (hc : ∀ j u, us[j]? = some u → w0.cell? (p.add j) = some u) : PtrL w0 [] p us := fun _ w _ hw j u hu =>
  (hw.1.cell (p := p.add j) (by rw [addr_block]; exact hb)).trans (hc j u hu)
theorem PtrL.own {g i : Nat} {t : TypeId} {cs : List Value} : PtrL w0 [blk g t cs] ⟨g, i, none⟩ (cs.drop i) := fun F w hF hw j u hu => by
  rw [add_lit, blk_cell (hw.2.1 (blk g t cs) (hF _ (by simp))).1]
  rw [List.getElem?_drop] at hu
  exact hu
variable {l : List Value} {d : Option Tmp} {ty : TypeId} {ps : String} {af : Array Edge} {g : Option (Nat × Bool)} {x : Operand}
theorem load1 {t : TypeId} {v : Value} (ho : one P t = true) (hx : ev l x = .pointer (some p)) (hp : PtrL w0 L p (v :: us)) : Sil P w0 L ⟨d, .load t x, ty, ps, af, g⟩ l v := fun F w hF hw => by
  have h0 := hp F w hF hw 0 v rfl
  have hp0 : p.add 0 = p := by simp [Addr.add]
  rw [hp0] at h0
  simp [execOp, hx, Instr.loadAt, Instr.sureAddr, loadVar, Sem.run_bind, (run_isAgg_one ho w).1, h0]
theorem loadA {t n : Nat} (ha : ag P t = some n) (hx : ev l x = .pointer (some p)) (hp : PtrL w0 L p us) (hn : n ≤ us.length) : Sil P w0 L ⟨d, .load t x, ty, ps, af, g⟩ l (.agg (us.take n).toArray) := fun F w hF hw => by
  obtain ⟨h1, i, hi, hs⟩ := run_isAgg_ag ha w
  have hc := run_loadCells_list (P := P) w p (us.take n) ((hp.cut n) F w hF hw)
  have hl : (us.take n).length = n := by simp; omega
  rw [hl] at hc
  simp [execOp, hx, Instr.loadAt, Instr.sureAddr, loadVar, Sem.run_bind, h1, sizeOf, typeInfo, hi, hs, hc]
theorem PtrL.own' {b i : Nat} {e : TypeId} {cs : List Value} (hm : blk b e cs ∈ L) : PtrL w0 L ⟨b, i, none⟩ (cs.drop i) :=
  (PtrL.own (w0 := w0) (g := b) (i := i) (t := e) (cs := cs)).mono (by intro c hc; simp at hc; subst hc; exact hm)
theorem load1_ix {t b i : Nat} {e : TypeId} {cs : List Value} (ho : one P t = true) (hx : ev l x = .pointer (some ⟨b, i, none⟩)) (hm : blk b e cs ∈ L) (hi : i < cs.length) : Sil P w0 L ⟨d, .load t x, ty, ps, af, g⟩ l (nth cs i) := by
  have h : PtrL w0 L ⟨b, i, none⟩ (cs.drop i) := PtrL.own' hm
  have e1 : cs.drop i = nth cs i :: cs.drop (i + 1) := by
    rw [List.drop_eq_getElem_cons hi, nth_eq]; simp [hi]
  rw [e1] at h
  exact load1 ho hx h
theorem loadA_ix {t b i n : Nat} {e : TypeId} {cs : List Value} (ha : ag P t = some n) (hx : ev l x = .pointer (some ⟨b, i, none⟩)) (hm : blk b e cs ∈ L) (hi : i + n ≤ cs.length) : Sil P w0 L ⟨d, .load t x, ty, ps, af, g⟩ l (.agg ((cs.drop i).take n).toArray) :=
  loadA ha hx (PtrL.own' hm) (by simp; omega)
theorem load1_own {t b i : Nat} {e : TypeId} {cs : List Value} (ho : one P t = true) (hx : ev l x = .pointer (some ⟨b, i, none⟩)) (hm : blk b e cs ∈ L) (hi : Nat.blt i cs.length = true) : Sil P w0 L ⟨d, .load t x, ty, ps, af, g⟩ l (nth cs i) :=
  load1_ix ho hx hm (by simpa using hi)
theorem loadA_own {t b i n : Nat} {e : TypeId} {cs : List Value} (ha : ag P t = some n) (hx : ev l x = .pointer (some ⟨b, i, none⟩)) (hm : blk b e cs ∈ L) (hi : Nat.ble (i + n) cs.length = true) : Sil P w0 L ⟨d, .load t x, ty, ps, af, g⟩ l (.agg ((cs.drop i).take n).toArray) :=
  loadA_ix ha hx hm (by simpa using hi)
theorem loadA_p {t n : Nat} (ha : ag P t = some n) (hx : ev l x = .pointer (some p)) (hp : PtrL w0 L p us) (hn : Nat.ble n us.length = true) : Sil P w0 L ⟨d, .load t x, ty, ps, af, g⟩ l (.agg (us.take n).toArray) :=
  loadA ha hx hp (by simpa using hn)
end

/-! ### Slices that read as lists -/
/-- The slice with base A holds, element by element, the cells e x of the things xs. -/
def Sl {E : Type} (w0 : World) (L : List Chunk) (A : Option Addr) (size : Nat) (e : E → List Value) (xs : List E) : Prop :=
  ∀ k x, xs[k]? = some x → ∃ a, A = some a ∧ PtrL w0 L (a.add (k * size)) (e x)
section
variable {P : Program} {w0 : World} {L L' : List Chunk} {E : Type} {A : Option Addr} {size : Nat} {e : E → List Value} {xs : List E}
theorem Sl.mono (h : Sl w0 L A size e xs) (hs : ∀ c ∈ L, c ∈ L') : Sl w0 L' A size e xs := fun k x hx => let ⟨a, ha, hp⟩ := h k x hx; ⟨a, ha, hp.mono hs⟩
theorem Sl.any (h : Sl w0 [] A size e xs) : Sl w0 L A size e xs := h.mono (by simp)
theorem Sl.nil : Sl w0 L A size e [] := fun k x hx => by simp at hx
variable {l : List Value} {d : Option Tmp} {ty : TypeId} {ps : String} {af : Array Edge} {g : Option (Nat × Bool)}
theorem Sl.index {t et : Nat} {x y : Operand} {len cap : Nat} {k : IntKind} {z : Int} {u : E} (h : Sl w0 L A size e xs) (ht : sl P t = some (et, size)) (hx : ev l x = .slice A len cap) (hy : ev l y = .int k z) (h0 : 0 ≤ z) (h1 : z < len) (hu : xs[z.toNat]? = some u) :
    ∃ p, Pure P ⟨d, .indexAddr t x y, ty, ps, af, g⟩ l (.pointer (some p)) ∧ PtrL w0 L p (e u) := by
  obtain ⟨a, rfl, hp⟩ := h _ _ hu
  exact ⟨_, indexAddr_sl ht hx hy h0 h1, hp⟩
/-- What lay there before the call. -/
def Rd {E : Type} (w : World) (A : Option Addr) (size : Nat) (e : E → List Value) (xs : List E) : Prop :=
  ∀ k x, xs[k]? = some x → ∃ a, A = some a ∧ a.block < w.heap.size ∧ ∀ j u, (e x)[j]? = some u → w.cell? ((a.add (k * size)).add j) = some u
theorem Rd.sl (h : Rd w0 A size e xs) : Sl w0 L A size e xs := fun k x hx => by
  obtain ⟨a, ha, hb, hc⟩ := h k x hx
  exact ⟨a, ha, (PtrL.old (by rw [addr_block]; exact hb) hc).any⟩
theorem Rd.nil {w : World} : Rd w A size e [] := fun k x hx => by simp at hx
/-- What is read of a slice in a state is readable by a callee. -/
theorem Sl.rd {F : List Chunk} {w : World} (h : Sl w0 L A size e xs) (hF : ∀ c ∈ L, c ∈ F) (hw : St w0 F w) (he : ∀ x, (e x) ≠ []) : Rd w A size e xs := fun k x hx => by
  obtain ⟨a, ha, hp⟩ := h k x hx
  refine ⟨a, ha, ?_, hp F w hF hw⟩
  cases hex : e x with
  | nil => exact absurd hex (he x)
  | cons u us =>
    have := World.block_lt_of_cell? w _ (hp F w hF hw 0 u (by rw [hex]; rfl))
    simpa [addr_block] using this
theorem flat_at {size j : Nat} {e : E → List Value} (hl : ∀ x, (e x).length = size) (hj : j < size) : ∀ (ys : List E) (k : Nat) (x : E), ys[k]? = some x → (ys.flatMap e)[k * size + j]? = (e x)[j]? := by
  intro ys
  induction ys with
  | nil => intro k x h; simp at h
  | cons y ys ih =>
    intro k x h
    cases k with
    | zero =>
      simp at h; subst h
      rw [List.flatMap_cons, List.getElem?_append_left (by rw [hl]; omega)]
      simp
    | succ k =>
      have h' : ys[k]? = some x := by simpa using h
      rw [List.flatMap_cons, List.getElem?_append_right (by rw [hl, Nat.succ_mul]; omega), hl, ← ih k x h']
      congr 1
      rw [Nat.succ_mul]; omega
theorem Sl.of_blk {b : Nat} {t : TypeId} {cs : List Value} (hl : ∀ x, (e x).length = size) (hcs : cs = xs.flatMap e) : Sl w0 [blk b t cs] (some ⟨b, 0, none⟩) size e xs := fun k x hx => by
  refine ⟨_, rfl, fun F w hF hw j u hu => ?_⟩
  have hj : j < size := by
    have := (List.getElem?_eq_some_iff.1 hu).1
    rw [hl] at this
    exact this
  rw [addr_add_add, add_lit, blk_cell (hw.2.1 (blk b t cs) (hF _ (by simp))).1, Nat.zero_add, hcs, flat_at hl hj xs k x hx]
  exact hu
theorem Sl.of_row {b : Nat} {t : TypeId} {n c : Nat} {ys : List Value} (hl : ∀ x, (e x).length = size) (hcs : ys = xs.flatMap e) : Sl w0 [row (.slice (some ⟨b, 0, none⟩) n c) t size n ys] (some ⟨b, 0, none⟩) size e xs := fun k x hx => by
  refine ⟨_, rfl, fun F w hF hw j u hu => ?_⟩
  have hj : j < size := by
    have := (List.getElem?_eq_some_iff.1 hu).1
    rw [hl] at this
    exact this
  have ho : w.ownsRow 0 t size (.slice (some ⟨b, 0, none⟩) n c) n ys := (hw.2.1 (row (.slice (some ⟨b, 0, none⟩) n c) t size n ys) (hF _ (by simp))).1
  rw [addr_add_add]
  refine ho.cells (g := b) rfl _ u ?_
  rw [hcs, flat_at hl hj xs k x hx]
  exact hu
end
end Go.K
