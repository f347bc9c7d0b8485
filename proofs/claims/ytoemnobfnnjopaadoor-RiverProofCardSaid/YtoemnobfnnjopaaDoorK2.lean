/-
  Plain lemmas and plain functions, several texts joined.
  Conditions stand in each theorem.
-/
import Derived.Test.YtoemnobfnnjopaaDoorK1
import Derived.WalkSpells
import Derived.DeepKeys
import Derived.Deep.Upon
set_option linter.unusedSimpArgs false
set_option linter.unusedVariables false
/-
  Plain lemmas on lists of ints: the first index at which a test holds.
  No conditions: no program is in sight.
-/
namespace Go.K
/-- The first index at which p holds, or -1. -/
def idx {E : Type} (p : E → Bool) (xs : List E) : Int :=
  match xs.findIdx? p with
  | some i => i
  | none => -1
theorem gt_mem {E : Type} [Inhabited E] {xs : List E} {k : Nat} (h : k < xs.length) : xs.getD k default ∈ xs := by
  rw [List.getD_eq_getElem?_getD, List.getElem?_eq_getElem h]; simp
theorem idx_found {E : Type} [Inhabited E] {p : E → Bool} {xs : List E} {k : Nat} (hk : k < xs.length) (h0 : ∀ j, j < k → p (xs.getD j default) = false) (h1 : p (xs.getD k default) = true) : idx p xs = k := by
  have : xs.findIdx? p = some k := by
    rw [List.findIdx?_eq_some_iff_getElem]
    refine ⟨hk, ?_, fun j hj => ?_⟩
    · rw [List.getD_eq_getElem?_getD, List.getElem?_eq_getElem hk] at h1; simpa using h1
    · have := h0 j hj
      rw [List.getD_eq_getElem?_getD, List.getElem?_eq_getElem (by omega)] at this; simpa using this
  simp [idx, this]
theorem idx_none {E : Type} [Inhabited E] {p : E → Bool} {xs : List E} (h0 : ∀ j, j < xs.length → p (xs.getD j default) = false) : idx p xs = -1 := by
  have : xs.findIdx? p = none := by
    rw [List.findIdx?_eq_none_iff]
    intro x hx
    obtain ⟨j, hj, rfl⟩ := List.getElem_of_mem hx
    have := h0 j hj
    rw [List.getD_eq_getElem?_getD, List.getElem?_eq_getElem hj] at this; simpa using this
  simp [idx, this]
theorem idx_ge {E : Type} {p : E → Bool} {xs : List E} : decide (idx p xs ≥ 0) = xs.any p := by
  unfold idx
  cases h : xs.findIdx? p with
  | none =>
    have h' := List.findIdx?_eq_none_iff.1 h
    have : xs.any p = false := by simpa using h'
    simp [this]
  | some i =>
    obtain ⟨hlt, hp, _⟩ := List.findIdx?_eq_some_iff_getElem.1 h
    have : xs.any p = true := List.any_eq_true.2 ⟨xs[i], List.getElem_mem hlt, hp⟩
    simp [this]
/-- The first thing whose number q is not 0: its index and number. -/
def fst {E : Type} (q : E → Int) (xs : List E) : Int × Int :=
  match xs.findIdx? (fun x => q x != 0) with
  | some i => (i, match xs[i]? with | some x => q x | none => 0)
  | none => (0, 0)
theorem fst_found {E : Type} [Inhabited E] {q : E → Int} {xs : List E} {k : Nat} (hk : k < xs.length) (h0 : ∀ j, j < k → q (xs.getD j default) = 0) (h1 : q (xs.getD k default) ≠ 0) : fst q xs = ((k : Int), q (xs.getD k default)) := by
  have e : xs.getD k default = xs[k] := by rw [List.getD_eq_getElem?_getD, List.getElem?_eq_getElem hk]; rfl
  have : xs.findIdx? (fun x => q x != 0) = some k := by
    rw [List.findIdx?_eq_some_iff_getElem]
    refine ⟨hk, ?_, fun j hj => ?_⟩
    · rw [e] at h1; simpa using h1
    · have := h0 j hj
      rw [List.getD_eq_getElem?_getD, List.getElem?_eq_getElem (by omega)] at this; simpa using this
  simp [fst, this, hk]
theorem fst_none {E : Type} [Inhabited E] {q : E → Int} {xs : List E} (h0 : ∀ j, j < xs.length → q (xs.getD j default) = 0) : fst q xs = (0, 0) := by
  have : xs.findIdx? (fun x => q x != 0) = none := by
    rw [List.findIdx?_eq_none_iff]
    intro x hx
    obtain ⟨j, hj, rfl⟩ := List.getElem_of_mem hx
    have := h0 j hj
    rw [List.getD_eq_getElem?_getD, List.getElem?_eq_getElem hj] at this; simpa using this
  simp [fst, this]
theorem lt_succ_case {k : Nat} {P : Nat → Prop} (h : ∀ j, j < k → P j) (hk : P k) : ∀ j, j < k + 1 → P j := fun j hj => by
  rcases Nat.lt_or_ge j k with h1 | h1
  · exact h j h1
  · have : j = k := by omega
    subst this; exact hk
end Go.K

/-
  Results that lie in memory.
  No conditions: plain lemmas over any program.
-/
namespace Go.K
open Go.RowKit
section
variable {P : Program} {w0 : World} {L : List Chunk} {l : List Value}
theorem run_cellA {p : Addr} {ty n b : Nat} {e : TypeId} {cs : List Value} (ha : ag P ty = some n) (hp : p = ⟨b, 0, none⟩) (hm : blk b e cs ∈ L) (hn : Nat.beq cs.length n = true) (w : World) (hw : St w0 L w) : (loadVar ty p).run P w = .ok (.agg cs.toArray) w := by
  subst hp
  obtain ⟨h1, i, hi, hs⟩ := run_isAgg_ag ha w
  have hn' : cs.length = n := by simpa using hn
  have hc := run_loadCells_list (P := P) w ⟨b, 0, none⟩ cs (fun j v hv => by rw [add_lit, blk_cell (hw.2.1 _ hm).1, Nat.zero_add]; exact hv)
  rw [hn'] at hc
  simp [loadVar, Sem.run_bind, h1, sizeOf, typeInfo, hi, hs, hc]
theorem run_cell1 {p : Addr} {ty b : Nat} {e : TypeId} {v : Value} (ho : one P ty = true) (hp : p = ⟨b, 0, none⟩) (hm : blk b e [v] ∈ L) (w : World) (hw : St w0 L w) : (loadVar ty p).run P w = .ok v w := by
  subst hp
  have h0 : w.cell? ⟨b, 0, none⟩ = some v := by rw [blk_cell (hw.2.1 _ hm).1]; rfl
  simp [loadVar, Sem.run_bind, (run_isAgg_one ho w).1, h0]
theorem res_c {fn : Func} {p : Tmp} {ty : TypeId} {b : Nat} {v : Value} (h : fn.results = #[.cell p ty]) (hp : nth l p = .pointer (some ⟨b, 0, none⟩)) {w : World} (hv : (loadVar ty ⟨b, 0, none⟩).run P w = .ok v w) :
    (results fn l.toArray).run P w = .ok v w := by
  have hp' : l.toArray[p]?.getD undef = .pointer (some ⟨b, 0, none⟩) := by rw [← hp, nth_eq]; simp
  simp at hp'
  simp [results, h, hp', asAddr, hv]
theorem res_ct {fn : Func} {p t : Tmp} {ty : TypeId} {b : Nat} {v : Value} (h : fn.results = #[.cell p ty, .tmp t]) (hp : nth l p = .pointer (some ⟨b, 0, none⟩)) {w : World} (hv : (loadVar ty ⟨b, 0, none⟩).run P w = .ok v w) :
    (results fn l.toArray).run P w = .ok (.tuple #[v, nth l t]) w := by
  have hp' : l.toArray[p]?.getD undef = .pointer (some ⟨b, 0, none⟩) := by rw [← hp, nth_eq]; simp
  have ht : l.toArray[t]?.getD undef = nth l t := by rw [nth_eq]; simp
  simp at hp' ht
  simp [results, h, hp', ht, asAddr, hv]
theorem res_ttt {fn : Func} {t u v : Tmp} (h : fn.results = #[.tmp t, .tmp u, .tmp v]) (w : World) : (results fn l.toArray).run P w = .ok (.tuple #[nth l t, nth l u, nth l v]) w := by
  have ht : ∀ t, l.toArray[t]?.getD undef = nth l t := fun t => by rw [nth_eq]; simp
  simp at ht
  simp [results, h, ht]
end
end Go.K
namespace Go.K
open Go.RowKit
section
variable {P : Program} {w0 : World} {L : List Chunk} {l : List Value} {d : Option Tmp} {ty : TypeId} {ps : String} {af : Array Edge} {g : Option (Nat × Bool)}
theorem use_row {A : Option Addr} {n c size : Nat} {t : TypeId} {ys : List Value} {G : World → Prop} (hm : row (.slice A n c) t size n ys ∈ L) (k : (n = 0 ∨ ∃ b, A = some ⟨b, 0, none⟩) → Hold w0 L G) : Hold w0 L G := fun w hw => by
  have ho : w.ownsRow 0 t size (.slice A n c) n ys := (hw.2.1 _ hm).1
  refine k ?_ w hw
  rcases Nat.eq_zero_or_pos n with h0 | h0
  · exact .inl h0
  · obtain ⟨b, cap, hv, _⟩ := ho.form h0
    refine .inr ⟨b, ?_⟩
    injection hv
theorem Sl.of_row' {E : Type} {A : Option Addr} {n c size : Nat} {t : TypeId} {ys : List Value} {e : E → List Value} {xs : List E} (h : n = 0 ∨ ∃ b, A = some ⟨b, 0, none⟩) (hn : xs.length = n) (hl : ∀ x, (e x).length = size) (hcs : ys = xs.flatMap e) : Sl w0 [row (.slice A n c) t size n ys] A size e xs := by
  rcases h with h | ⟨b, rfl⟩
  · have : xs = [] := List.eq_nil_of_length_eq_zero (by omega)
    subst this; exact Sl.nil
  · exact Sl.of_row hl hcs
theorem index_arA {t m e n : Nat} {x y : Operand} {cs : List Value} {k : IntKind} {z : Int} (h : ar P t = some (m, e, n)) (ha : ag P e = some n) (hx : ev l x = .agg cs.toArray) (hy : ev l y = .int k z) (h0 : 0 ≤ z) (h1 : z < m) :
    Pure P ⟨d, .index t x y, ty, ps, af, g⟩ l (.agg ((cs.drop (z.toNat * n)).take n).toArray) := fun w => by
  obtain ⟨i, hs, hi, hs1⟩ := ar_spec h
  obtain ⟨ha1, j, hj, hj1⟩ := run_isAgg_ag ha w
  rw [hi] at hj; cases hj
  simp [execOp, hx, hy, Instr.index, asIntOf, Sem.run_bind, run_underlying hs w, h0, h1, sizeOf, typeInfo, hi, hs1, part, ha1]
theorem Sil.cast {o : Oper} {v u : Value} (h : Sil P w0 L o l v) (e : v = u) : Sil P w0 L o l u := e ▸ h
/-- 's == nil' for a slice. -/
theorem eql_slnil {t e n yt : Nat} {x : Operand} {A : Option Addr} {len cap : Nat} (h : sl P t = some (e, n)) (hx : ev l x = .slice A len cap) : Pure P ⟨d, .binOp .eql t x (.const (.slice none 0 0)) yt, ty, ps, af, g⟩ l (.bool A.isNone) := fun w => by
  obtain ⟨i, hs, _⟩ := sl_spec h
  have := Lib.run_eql_slice_nil (P := P) w t e A len cap 0 0 hs
  have hc : ev l (.const (.slice none 0 0)) = .slice none 0 0 := rfl
  simp only [execOp, hx, hc, eqGuard_at_slice, this, Sem.run_bind, Sem.run_pure, Result.andThen_ok]
end
theorem setn_get : ∀ (l : List Value) (i : Nat) (v : Value), i < l.length → nth (setn l i v) i = v
  | [], _, _, h => by simp at h
  | _ :: _, 0, _, _ => rfl
  | _ :: l, i + 1, v, h => by simp only [setn, nth]; exact setn_get l i v (by simpa using h)
theorem nth_map (e : Int → Value) : ∀ (xs : List Int) (i : Nat), i < xs.length → nth (xs.map e) i = e (xs.getD i default)
  | [], _, h => by simp at h
  | _ :: _, 0, _ => rfl
  | _ :: xs, i + 1, h => by simp only [List.map_cons, nth, List.getD_cons_succ]; exact nth_map e xs i (by simpa using h)
theorem not_d {P : Program} {l : List Value} {d : Option Tmp} {ty : TypeId} {ps : String} {af : Array Edge} {g : Option (Nat × Bool)} {xt : TypeId} {x : Operand} {p : Prop} [Decidable p] (hx : ev l x = .bool (decide p)) : Pure P ⟨d, .unOp .not xt x, ty, ps, af, g⟩ l (.bool (decide (¬ p))) := by
  have h := not_ (P := P) (d := d) (ty := ty) (ps := ps) (af := af) (g := g) (xt := xt) hx
  rw [← decide_not] at h
  exact h
end Go.K

/-
  Slices that a call returns, slices of arrays and of slices, append of a whole slice, comparison of small structs and arrays.
  No conditions: plain lemmas over any program.
-/
namespace Go.K
open Go.RowKit
theorem ne0 {a b : Int} (h : b ≠ 0) : (a, b).2 ≠ 0 := h
/-- The call returns a slice of its own that reads as xs. -/
@[reducible] def RetS {E : Type} (t : TypeId) (size : Nat) (e : E → List Value) (xs : List E) (w : World) : Ending → World → Prop :=
  Ret (fun r : Option Addr × Nat => xs.length = 0 ∨ ∃ b, r.1 = some ⟨b, 0, none⟩) (fun r => .slice r.1 xs.length r.2) (fun r => [row (.slice r.1 xs.length r.2) t size xs.length (xs.flatMap e)]) w
/-- The same, with a number. -/
@[reducible] def RetSE {E : Type} (t : TypeId) (size : Nat) (e : E → List Value) (xs : List E) (z : Int) (w : World) : Ending → World → Prop :=
  Ret (fun r : Option Addr × Nat => xs.length = 0 ∨ ∃ b, r.1 = some ⟨b, 0, none⟩) (fun r => .tuple #[.slice r.1 xs.length r.2, .int .i64 z]) (fun r => [row (.slice r.1 xs.length r.2) t size xs.length (xs.flatMap e)]) w
section
variable {w0 w : World} {L : List Chunk} {E : Type} {A : Option Addr} {size n c : Nat} {t : TypeId} {e : E → List Value} {xs : List E} {ys : List Value} {v : Value}
theorem rets_s (hm : row (.slice A n c) t size n ys ∈ L) (hn : n = xs.length) (hys : ys = xs.flatMap e) (hv : v = .slice A n c) : Hold w L (RetS t size e xs w (.returned v)) := by
  subst hn hys hv
  refine use_row hm fun h => rets (A, c) h rfl (by simpa using hm)
theorem rets_se {z z' : Int} (hm : row (.slice A n c) t size n ys ∈ L) (hn : n = xs.length) (hys : ys = xs.flatMap e) (hz : z = z') (hv : v = .tuple #[.slice A n c, .int .i64 z]) : Hold w L (RetSE t size e xs z' w (.returned v)) := by
  subst hn hys hv hz
  refine use_row hm fun h => rets (A, c) h rfl (by simpa using hm)
theorem rets_s0 (hx : xs = []) (hv : v = .slice none 0 0) : Hold w L (RetS t size e xs w (.returned v)) := by
  subst hx
  exact nil_row (e := t) (size := size) (rets_s (List.Mem.head _) rfl rfl hv)
theorem rets_se0 {z z' : Int} (hx : xs = []) (hz : z = z') (hv : v = .tuple #[.slice none 0 0, .int .i64 z]) : Hold w L (RetSE t size e xs z' w (.returned v)) := by
  subst hx
  exact nil_row (e := t) (size := size) (rets_se (List.Mem.head _) rfl rfl hz hv)
/-- The same, nil just if there is nothing. -/
@[reducible] def RetN {E : Type} (t : TypeId) (size : Nat) (e : E → List Value) (xs : List E) (w : World) : Ending → World → Prop :=
  Ret (fun r : Option Addr × Nat => (xs.length = 0 ∧ r.1 = none) ∨ (xs.length ≠ 0 ∧ ∃ b, r.1 = some ⟨b, 0, none⟩)) (fun r => .slice r.1 xs.length r.2) (fun r => [row (.slice r.1 xs.length r.2) t size xs.length (xs.flatMap e)]) w
theorem rets_n (hm : row (.slice A n c) t size n ys ∈ L) (hn : n = xs.length) (hys : ys = xs.flatMap e) (h0 : n = 0 → A = none) (hv : v = .slice A n c) : Hold w L (RetN t size e xs w (.returned v)) := by
  subst hn hys hv
  refine use_row hm fun h => rets (A, c) ?_ rfl (by simpa using hm)
  rcases Nat.eq_zero_or_pos xs.length with h1 | h1
  · exact .inl ⟨h1, h0 h1⟩
  · exact .inr ⟨by omega, h.resolve_left (by omega)⟩
theorem nsome {A : Option Addr} {n : Nat} (h : (n = 0 ∧ A = none) ∨ (n ≠ 0 ∧ ∃ b, A = some ⟨b, 0, none⟩)) : n = 0 ∨ ∃ b, A = some ⟨b, 0, none⟩ := h.imp And.left And.right
theorem nnone {A : Option Addr} {n : Nat} (h : (n = 0 ∧ A = none) ∨ (n ≠ 0 ∧ ∃ b, A = some ⟨b, 0, none⟩)) : A.isNone = decide (n = 0) := by
  rcases h with ⟨h1, h2⟩ | ⟨h1, b, h2⟩ <;> subst h2 <;> simp [h1]
theorem Rd.isNil {w : World} (h : Rd w Option.none size e xs) : xs = [] := by
  cases xs with
  | nil => rfl
  | cons x xs => obtain ⟨a, ha, _⟩ := h 0 x rfl; cases ha
theorem oneI (xs : List Int) : (xs.flatMap eI).all Value.oneCell' = true := by
  induction xs with
  | nil => rfl
  | cons x xs ih => rw [List.flatMap_cons, List.all_append, ih]; rfl
theorem oneP (xs : List (Int × Int)) : (xs.flatMap eP).all Value.oneCell' = true := by
  induction xs with
  | nil => rfl
  | cons x xs ih => rw [List.flatMap_cons, List.all_append, ih]; rfl
theorem oneT (xs : List (Int × Int × Int)) : (xs.flatMap eT).all Value.oneCell' = true := by
  induction xs with
  | nil => rfl
  | cons x xs ih => rw [List.flatMap_cons, List.all_append, ih]; rfl
theorem Sl.own (h : xs.length = 0 ∨ ∃ b, A = some ⟨b, 0, none⟩) (hl : ∀ x, (e x).length = size) : Sl w0 [row (.slice A xs.length c) t size xs.length (xs.flatMap e)] A size e xs := Sl.of_row' h rfl hl rfl
theorem Rd.own {F : List Chunk} (hw : St w0 F w) (hm : row (.slice A xs.length c) t size xs.length (xs.flatMap e) ∈ F) (h : xs.length = 0 ∨ ∃ b, A = some ⟨b, 0, none⟩) (hl : ∀ x, (e x).length = size) (h0 : 0 < size) : Rd w A size e xs :=
  (Sl.own (w0 := w0) (t := t) (c := c) h hl).rd (F := F) (by intro c hc; simp at hc; subst hc; exact hm) hw (fun x hx => by have := hl x; rw [hx] at this; simp at this; omega)
theorem PtrL.at1 {p : Addr} {us : List Value} {ch : Chunk} (h : PtrL w0 [ch] p us) (hm : ch ∈ L) : PtrL w0 L p us := h.mono (by intro c hc; simp at hc; subst hc; exact hm)
theorem Sl.at1 {ch : Chunk} (h : Sl w0 [ch] A size e xs) (hm : ch ∈ L) : Sl w0 L A size e xs := h.mono (by intro c hc; simp at hc; subst hc; exact hm)
/-- A slice of a block of the call's own, or its beginning. -/
theorem Sl.of_blkp {b : Nat} {cs rest : List Value} (hl : ∀ x, (e x).length = size) (hcs : cs = xs.flatMap e ++ rest) : Sl w0 [blk b t cs] (some ⟨b, 0, none⟩) size e xs := fun k x hx => by
  refine ⟨_, rfl, fun F w hF hw j u hu => ?_⟩
  have hj : j < size := by
    have := (List.getElem?_eq_some_iff.1 hu).1
    rw [hl] at this
    exact this
  have h1 := (flat_at hl hj xs k x hx).trans hu
  have h2 := (List.getElem?_eq_some_iff.1 h1).1
  rw [addr_add_add, add_lit, blk_cell (hw.2.1 (blk b t cs) (hF _ (by simp))).1, Nat.zero_add, hcs, List.getElem?_append_left h2, h1]
theorem blk_row0 {b : Nat} {G : World → Prop} (k : Hold w0 (row (.slice (some ⟨b, 0, none⟩) 0 0) t size 0 [] :: L) G) : Hold w0 (blk b t [] :: L) G := fun w hw => by
  refine k w ⟨hw.1, fun c hc => ?_, ?_⟩
  · rcases List.mem_cons.1 hc with rfl | hc
    · have h := hw.2.1 (blk b t []) (by simp)
      exact ⟨⟨by simp, .inr ⟨b, 0, #[], rfl, Nat.zero_le _, h.1, Nat.le_refl _, Nat.zero_le _, by simp, by simp⟩⟩, fun k hk => h.2 k (by
        have : b = k := by simpa [row, Value.ownBlock] using hk
        exact this.symm)⟩
    · exact hw.2.1 c (List.mem_cons_of_mem _ hc)
  · have h := List.pairwise_cons.1 hw.2.2
    exact List.pairwise_cons.2 ⟨fun c hc k hk => h.1 c hc k (by
        have : b = k := by simpa [row, Value.ownBlock] using hk
        exact this.symm), h.2⟩
/-- A whole slice, as one pointer. -/
theorem Sl.ptr {a : Addr} (h : Sl w0 L (some a) size e xs) (hl : ∀ x, (e x).length = size) (h0 : 0 < size) : PtrL w0 L a (xs.flatMap e) := fun F w hF hw j u hu => by
  have hj := (List.getElem?_eq_some_iff.1 hu).1
  have hlen : (xs.flatMap e).length = xs.length * size := by
    clear h hu hj
    induction xs with
    | nil => simp
    | cons x xs ih => rw [List.flatMap_cons, List.length_append, ih, hl, List.length_cons, Nat.succ_mul]; omega
  have hk : j / size < xs.length := by
    rw [hlen] at hj
    exact Nat.div_lt_of_lt_mul (by rwa [Nat.mul_comm] at hj)
  have hjm : j % size < size := Nat.mod_lt _ h0
  have hx : xs[j / size]? = some xs[j / size] := List.getElem?_eq_getElem hk
  obtain ⟨a', ha, hp⟩ := h _ _ hx
  cases ha
  have h1 := flat_at hl hjm xs _ _ hx
  have e1 : j / size * size + j % size = j := by rw [Nat.mul_comm]; exact Nat.div_add_mod j size
  rw [e1] at h1
  have h2 := hp F w hF hw (j % size) u (by rw [← h1]; exact hu)
  rw [addr_add_add, e1] at h2
  exact h2
end
section
variable {P : Program} {w0 : World} {L L' : List Chunk} {l : List Value} {d : Option Tmp} {ty : TypeId} {ps : String} {af : Array Edge} {g : Option (Nat × Bool)}
theorem flat_len {E : Type} {e : E → List Value} {size : Nat} (hl : ∀ x, (e x).length = size) : ∀ xs : List E, (xs.flatMap e).length = xs.length * size := by
  intro xs
  induction xs with
  | nil => simp
  | cons x xs ih => rw [List.flatMap_cons, List.length_append, ih, hl, List.length_cons, Nat.succ_mul]; omega
/-- append(s, x...) with any slice x. -/
theorem appendS {E : Type} {M : Option Addr → Nat → List Chunk} {t ty' e size bytes n c c' : Nat} {A B : Option Addr} {enc : E → List Value} {zs : List E} {s x : Operand} {xs : List Value} (ht : el P t = some (e, size, bytes)) (hs : ev l s = .slice A n c) (hx : ev l x = .slice B zs.length c')
    (hp : Sl w0 L B size enc zs) (hl : ∀ x, (enc x).length = size) (h1 : (zs.flatMap enc).all Value.oneCell' = true) (hb : (n + zs.length) * bytes ≤ 140737488355328) (hb' : n + zs.length ≤ 140737488355328)
    (hr : ∀ A' cap, Rep (row (.slice A n c) e size n xs) (row (.slice A' (n + zs.length) cap) e size (n + zs.length) (xs ++ zs.flatMap enc)) L (M A' cap)) :
    Upd P w0 L ⟨d, .call { callee := .builtin .append, args := #[s, x], argTypes := #[t, t] }, ty', ps, af, g⟩ l (fun _ : Option Addr × Nat => True) (fun r => .slice r.1 (n + zs.length) r.2) (fun r => M r.1 r.2) := by
  rcases Nat.eq_zero_or_pos zs.length with h0 | h0
  · intro w hw
    obtain ⟨i, z, hu, hi, hz, hsi, hby, hzs, hpos⟩ := el_spec ht
    have hz0 : zs = [] := List.eq_nil_of_length_eq_zero h0
    subst hz0
    have hown : w.ownsRow 0 e size (.slice A n c) n xs := (hw.2.1 _ (hr none 0).mem).1
    have hle : n ≤ c := by
      rcases hown.2 with ⟨h, hn⟩ | ⟨gg, cap, cur, h, _, _, h2, _⟩
      · omega
      · injection h with _ _ h; omega
    have hsrc : Src P i.size t (.slice B 0 c') 0 [] w := by
      cases B with
      | none => exact Src.ofNil w hu c'
      | some a => exact Src.ofSlice w hu a 0 c' [] (by simp) (by simp) (by simp)
    have hrun := run_append_nothing (P := P) w t t ty' e i hu hi A n c hle (.slice B 0 c') hsrc
    have hx' : ev l x = .slice B 0 c' := hx
    refine OpT.of_run (w' := w) ?_ ⟨(A, c), trivial, rfl, ?_⟩
    · simp only [execOp, resolve, invoke, builtin, Sem.run_bind, Sem.run_pure, Result.andThen_ok, List.map_toArray, List.map_cons, List.map_nil, hs, hx', hrun]
      rfl
    · have hR := hr A c
      simp only [List.length_nil, Nat.add_zero, List.flatMap_nil, List.append_nil] at hR ⊢
      obtain ⟨X, Y, e1, e2⟩ := hR
      rw [e2, ← e1]; exact hw
  · have hB : ∃ a, B = some a := by
      obtain ⟨a, ha, _⟩ := hp 0 zs[0] (List.getElem?_eq_getElem h0)
      exact ⟨a, ha⟩
    obtain ⟨a, rfl⟩ := hB
    have hpos : 0 < size := by obtain ⟨i, z, hu, hi, hz, hsi, hby, hzs, hpos⟩ := el_spec ht; exact hpos
    intro w hw
    intro K Q hK
    exact append (news := zs.flatMap enc) ht hs hx (hp.ptr hl hpos) (flat_len hl zs) h1 h0 hb hb' (fun b cap => hr (some ⟨b, 0, none⟩) cap) w hw K Q (fun v w' ⟨r, h1, h2, h3⟩ => hK v w' ⟨(some ⟨r.1, 0, none⟩, r.2), trivial, h2, h3⟩)
theorem elem_sl {t e n : Nat} (h : sl P t = some (e, n)) : P.underlying t = some (.slice (P.elem t)) ∧ P.elem t = e := by
  obtain ⟨i, hs, hi, hn⟩ := sl_spec h
  have : P.elem t = e := by simp [Program.elem, hs]
  exact ⟨by rw [this]; exact hs, this⟩
/-- s[:y] of a slice. -/
theorem Sl.take {E : Type} {M : List Chunk} {A : Option Addr} {size : Nat} {e : E → List Value} {xs : List E} (h : Sl w0 M A size e xs) (n : Nat) : Sl w0 M A size e (xs.take n) := fun k x hx => h k x (by
  rw [List.getElem?_take] at hx
  split at hx
  · exact hx
  · cases hx)
theorem addr_add0 (a : Addr) : a.add 0 = a := by
  unfold Addr.add
  split
  · rename_i h; cases a; simp_all
  · cases a; simp_all
theorem slice_hi {t et size n c : Nat} {x y : Operand} {A : Option Addr} {k : IntKind} {z : Int} (m : Nat) (hs : sl P t = some (et, size)) (hx : ev l x = .slice A n c) (hy : ev l y = .int k z) (hz : z = (m : Int)) (h1 : m ≤ c) :
    Pure P ⟨d, .slice t x none (some y) none, ty, ps, af, g⟩ l (.slice A m c) := fun w => by
  subst hz
  obtain ⟨hu, he⟩ := elem_sl hs
  obtain ⟨i, _, hi, hn⟩ := sl_spec hs
  have := run_slice_h (P := P) w t A n c hu k (m : Int) (by omega) (by omega)
  have e0 : A.map (fun a => a.add (0 * size)) = A := by cases A <;> simp [addr_add0]
  simp only [execOp, Option.map_some, Option.map_none, hx, hy, run_sliceAt_slice w t _ none _ none hu, this, sizeOf, typeInfo, he, hi, hn, Sem.run_bind, run_program, Sem.run_pure, Result.andThen_ok, sliced, Nat.sub_zero, Int.toNat_natCast, e0, ite_self]
/-- s[y:] of a slice: its base, if there is something left. -/
theorem slice_lo {E : Type} {M : List Chunk} {t et size c : Nat} {x y : Operand} {A : Option Addr} {k : IntKind} {z : Int} {e : E → List Value} {xs : List E} (m : Nat) (h : Sl w0 M A size e xs) (hs : sl P t = some (et, size)) (hx : ev l x = .slice A xs.length c) (hy : ev l y = .int k z) (hz : z = (m : Int)) (h1 : m ≤ xs.length) (h2 : xs.length ≤ c) :
    ∃ B, Pure P ⟨d, .slice t x (some y) none none, ty, ps, af, g⟩ l (.slice B (xs.drop m).length (c - m)) ∧ Sl w0 M B size e (xs.drop m) := by
  subst hz
  obtain ⟨hu, he⟩ := elem_sl hs
  obtain ⟨i, _, hi, hn⟩ := sl_spec hs
  refine ⟨if c = m then A else A.map (fun a => a.add (m * size)), fun w => ?_, fun j x hx' => ?_⟩
  · have := run_slice_l (P := P) w t A xs.length c hu k (m : Int) (by omega) (by omega)
    simp only [execOp, Option.map_some, Option.map_none, hx, hy, run_sliceAt_slice w t _ _ none none hu, this, sizeOf, typeInfo, he, hi, hn, Sem.run_bind, run_program, Sem.run_pure, Result.andThen_ok, sliced, Int.toNat_natCast, List.length_drop]
  · rw [List.getElem?_drop] at hx'
    have hlt := (List.getElem?_eq_some_iff.1 hx').1
    obtain ⟨a, ha, hp⟩ := h _ _ hx'
    subst ha
    refine ⟨a.add (m * size), by rw [if_neg (by omega)]; rfl, ?_⟩
    rw [addr_add_add, ← Nat.add_mul]; exact hp
/-- p[:y] of an array. -/
theorem slice_ar {t m0 e size b : Nat} {x y : Operand} {k : IntKind} {z : Int} (m : Nat) (ha : ar P t = some (m0, e, size)) (hx : ev l x = .pointer (some ⟨b, 0, none⟩)) (hy : ev l y = .int k z) (hz : z = (m : Int)) (h1 : m ≤ m0) :
    Pure P ⟨d, .slice t x none (some y) none, ty, ps, af, g⟩ l (.slice (some ⟨b, 0, none⟩) m m0) := fun w => by
  subst hz
  obtain ⟨i, hu, hi, hn⟩ := ar_spec ha
  have e1 : P.elem t = e := by simp [Program.elem, hu]
  have e2 : P.arrayLen t = m0 := by simp [Program.arrayLen, hu]
  have := run_sliceAt_array_h (P := P) w t ⟨b, 0, none⟩ (by rw [e1, e2]; exact hu) k (m : Int) (by omega) (by rw [e2]; omega)
  simp only [execOp, Option.map_some, Option.map_none, hx, hy, this, sizeOf, typeInfo, e1, e2, hi, hn, Sem.run_bind, run_program, Sem.run_pure, Result.andThen_ok, slicedAt, Nat.sub_zero, Int.toNat_natCast, addr_add0, Nat.zero_mul, ite_self]
/-! Structs of two ints, compared. -/
def eq2 (P : Program) (t : TypeId) : Bool :=
  !P.stoodInHeld t && !P.eqGuardType P.depth t && match P.underlying t with
  | some (.struct fs) => match fs.toList with
    | [f, g] => f.name != "_" && g.name != "_" && one P f.type && one P g.type && (match P.underlying f.type with | some (.int _) => true | _ => false) && (match P.underlying g.type with | some (.int _) => true | _ => false) && f.offset == 0 && g.offset == 1
    | _ => false
  | _ => false
theorem run_eq2 {t : TypeId} (h : eq2 P t = true) (a b c d : Int) (w : World) : (Op.equalIn 10000 t (.agg #[.int .i64 a, .int .i64 b]) (.agg #[.int .i64 c, .int .i64 d])).run P w = .ok (a == c && b == d) w ∧ P.eqGuardType P.depth t = false := by
  unfold eq2 at h
  simp only [Bool.and_eq_true, Bool.not_eq_true'] at h
  obtain ⟨⟨h1, h2⟩, h3⟩ := h
  refine ⟨?_, h2⟩
  split at h3
  · rename_i fs hu
    split at h3
    · rename_i f g hf
      simp only [Bool.and_eq_true, bne_iff_ne, beq_iff_eq] at h3
      obtain ⟨⟨⟨⟨⟨⟨⟨n1, n2⟩, o1⟩, o2⟩, u1⟩, u2⟩, q1⟩, q2⟩ := h3
      have e1 : P.fieldsOf t = fs := by simp [Program.fieldsOf, hu]
      split at u1
      · rename_i k1 hk1
        split at u2
        · rename_i k2 hk2
          have r1 : ∀ x y w, (Op.equalIn 9999 f.type (.int .i64 x) (.int .i64 y)).run P w = .ok (x == y) w := fun x y w => run_equalIn_int w 9998 f.type .i64 k1 x y hk1
          have r2 : ∀ x y w, (Op.equalIn 9999 g.type (.int .i64 x) (.int .i64 y)).run P w = .ok (x == y) w := fun x y w => run_equalIn_int w 9998 g.type .i64 k2 x y hk2
          have p1 : ∀ x y w, (part f.type #[.int .i64 x, .int .i64 y] f.offset).run P w = .ok (.int .i64 x) w := fun x y w => by
            simp [part, (run_isAgg_one o1 w).1, Sem.run_bind, q1]
          have p2 : ∀ x y w, (part g.type #[.int .i64 x, .int .i64 y] g.offset).run P w = .ok (.int .i64 y) w := fun x y w => by
            simp [part, (run_isAgg_one o2 w).1, Sem.run_bind, q2]
          have e2 := run_equalIn_struct (P := P) w 9999 t #[.int .i64 a, .int .i64 b] #[.int .i64 c, .int .i64 d] (by rw [e1]; exact hu) h1
          rw [e2, e1, hf]
          cases hac : (a == c)
          · simp [Op.eqFields, n1, p1, r1, Sem.run_bind, hac]
          · cases hbd : (b == d)
            · simp [Op.eqFields, n1, n2, p1, p2, r1, r2, Sem.run_bind, hac, hbd]
            · simp [Op.eqFields, n1, n2, p1, p2, r1, r2, Sem.run_bind, hac, hbd]
        · cases u2
      · cases u1
    · cases h3
  · cases h3
theorem eql_s2 {t yt : Nat} {x y : Operand} {a b c e : Int} (h : eq2 P t = true) (hx : ev l x = .agg #[.int .i64 a, .int .i64 b]) (hy : ev l y = .agg #[.int .i64 c, .int .i64 e]) : Pure P ⟨d, .binOp .eql t x y yt, ty, ps, af, g⟩ l (.bool (decide ((a, b) = (c, e)))) := fun w => by
  obtain ⟨h1, h2⟩ := run_eq2 h a b c e w
  have h3 := run_eqGuard_agg (P := P) w .eql t x y #[.int .i64 a, .int .i64 b] #[.int .i64 c, .int .i64 e] h2
  have h4 := run_eql_struct (P := P) w t #[.int .i64 a, .int .i64 b] #[.int .i64 c, .int .i64 e]
  have e1 : (a == c && b == e) = decide ((a, b) = (c, e)) := by
    rw [Bool.eq_iff_iff]; simp
  simp only [execOp, hx, hy, Sem.run_bind, h3, Result.andThen_ok, h4, h1, e1, Sem.run_pure]
theorem neq_s2 {t yt : Nat} {x y : Operand} {a b c e : Int} (h : eq2 P t = true) (hx : ev l x = .agg #[.int .i64 a, .int .i64 b]) (hy : ev l y = .agg #[.int .i64 c, .int .i64 e]) : Pure P ⟨d, .binOp .neq t x y yt, ty, ps, af, g⟩ l (.bool (decide ((a, b) ≠ (c, e)))) := fun w => by
  obtain ⟨h1, h2⟩ := run_eq2 h a b c e w
  have h3 := run_eqGuard_agg (P := P) w .neq t x y #[.int .i64 a, .int .i64 b] #[.int .i64 c, .int .i64 e] h2
  have h4 := run_neq_struct (P := P) w t #[.int .i64 a, .int .i64 b] #[.int .i64 c, .int .i64 e]
  have e1 : (!(a == c && b == e)) = decide ((a, b) ≠ (c, e)) := by
    rw [Bool.eq_iff_iff]; simp
  simp only [execOp, hx, hy, Sem.run_bind, h3, Result.andThen_ok, h4, h1, e1, Sem.run_pure]
/-- Keys of any type, compared by their literals. -/
theorem eql_key {t yt m : Nat} {x y : Operand} {a b : Value} {la lb : List Lit} (hk : P.keyTypeAt 10 t = true) (hg : P.eqGuardType P.depth t = false) (hx : ev l x = a) (hy : ev l y = b) (fa : a.formed P t = true) (fb : b.formed P t = true)
    (ha : P.keyLits m t a.cells.toList = some la) (hb : P.keyLits m t b.cells.toList = some lb) (hag : ∃ xs ys, a = .agg xs ∧ b = .agg ys) (c : Bool) (hc : c = true ↔ la = lb) : Pure P ⟨d, .binOp .eql t x y yt, ty, ps, af, g⟩ l (.bool c) := fun w => by
  obtain ⟨xs, ys, rfl, rfl⟩ := hag
  obtain ⟨r, h1, h2⟩ := run_equalIn_deep (P := P) 9990 10 t hk w m m (.agg xs) (.agg ys) la lb fa fb ha hb
  have e1 : r = c := by rw [Bool.eq_iff_iff, h2, hc]
  have h3 := run_eqGuard_agg (P := P) w .eql t x y xs ys hg
  have h4 := run_eql_struct (P := P) w t xs ys
  simp only [execOp, hx, hy, Sem.run_bind, h3, Result.andThen_ok, h4, h1, e1, Sem.run_pure]
theorem store_all {t n b : Nat} {e : TypeId} {x y : Operand} {cs : List Value} (hn : sz P t = some n) (hx : ev l x = .pointer (some ⟨b, 0, none⟩)) (hlen : Nat.beq (cl (ev l y)).length n = true) (hfit : Nat.beq cs.length n = true)
    (h1 : (cl (ev l y)).all Value.oneCell' = true) (hr : Rep (blk b e cs) (blk b e (cl (ev l y))) L L') :
    Upd P w0 L ⟨d, .store t x y, ty, ps, af, g⟩ l (fun _ : Unit => True) (fun _ => undef) (fun _ => L') := by
  have h2 : (cl (ev l y)).length = n := by simpa using hlen
  have h3 : cs.length = n := by simpa using hfit
  have h4 : over cs 0 (cl (ev l y)) = cl (ev l y) := by
    have := over_eq (cl (ev l y)) cs 0 (by omega)
    have := List.toArray_inj this
    rw [this]
    simp [h2, ← h3]
  exact store_ix (cs := cs) (i := 0) (b := b) hn hx h2 (by omega) h1 (by rw [h4]; exact hr)
theorem weak {L L' : List Chunk} {G : World → Prop} (hs : List.Sublist L' L) (k : Hold w0 L' G) : Hold w0 L G := fun w hw => k w (hw.sub hs)
end
theorem Rd.litp {E : Type} {w0 w : World} {F : List Chunk} {b : Nat} {t : TypeId} {cs rest : List Value} {size : Nat} {e : E → List Value} {xs : List E} (hw : St w0 F w) (hm : blk b t cs ∈ F) (hl : ∀ x, (e x).length = size) (h0 : 0 < size) (hcs : cs = xs.flatMap e ++ rest) : Rd w (some ⟨b, 0, none⟩) size e xs :=
  (Sl.of_blkp (w0 := w0) (b := b) (t := t) (cs := cs) hl hcs).rd (F := F) (by intro c hc; simp at hc; subst hc; exact hm) hw (fun x h => by have := hl x; rw [h] at this; simp at this; omega)
end Go.K

/-
  Conversions, shifts, operations on bits and on numbers of any kind.
  No conditions: plain lemmas over any program.
-/
namespace Go.K
open Go.RowKit
section
variable {P : Program} {l : List Value} {d : Option Tmp} {ty : TypeId} {ps : String} {af : Array Edge} {g : Option (Nat × Bool)}
/-- The type is of ints of kind k. -/
def ik (P : Program) (t : TypeId) : Option IntKind := match P.underlying t with | some (.int k) => some k | _ => none
theorem ik_spec {t : TypeId} {k : IntKind} (h : ik P t = some k) : P.underlying t = some (.int k) := by
  unfold ik at h
  split at h
  · rename_i k' hk; cases h; exact hk
  · cases h
theorem conv_int {src dst : TypeId} {x : Operand} {k k' ks : IntKind} {n : Int} (hs : ik P src = some ks) (hd : ik P dst = some k') (hx : ev l x = .int k n) : Pure P ⟨d, .convert src dst x, ty, ps, af, g⟩ l (.int k' (k'.wrap n)) := fun w => by
  simp [execOp, hx, convert, Sem.run_bind, run_underlying (ik_spec hs) w, run_underlying (ik_spec hd) w, Conv.intToInt]
section
variable {xt yt : TypeId} {x y : Operand} {k k' : IntKind} {m n : Int}
theorem shr_int (hx : ev l x = .int k m) (hy : ev l y = .int k' n) (h0 : 0 ≤ n) : Pure P ⟨d, .binOp .shr xt x y yt, ty, ps, af, g⟩ l (.int k (m.fdiv (2 ^ min n.toNat k.bits))) := fun w => by
  have h1 : ¬ n < 0 := by omega
  simp [execOp, hx, hy, binOp, eqGuard, Op.shift, h1]
theorem shl_int (hx : ev l x = .int k m) (hy : ev l y = .int k' n) (h0 : 0 ≤ n) : Pure P ⟨d, .binOp .shl xt x y yt, ty, ps, af, g⟩ l (.int k (k.wrap (m * 2 ^ min n.toNat k.bits))) := fun w => by
  have h1 : ¬ n < 0 := by omega
  simp [execOp, hx, hy, binOp, eqGuard, Op.shift, h1]
theorem and_int (hx : ev l x = .int k m) (hy : ev l y = .int k n) : Pure P ⟨d, .binOp .and xt x y yt, ty, ps, af, g⟩ l (.int k (k.wrap (BitVec.ofInt k.bits m &&& BitVec.ofInt k.bits n).toNat)) := fun w => by
  simp [execOp, hx, hy, binOp, eqGuard, Op.intBits]
theorem add_wrap (hx : ev l x = .int k m) (hy : ev l y = .int k n) : Pure P ⟨d, .binOp .add xt x y yt, ty, ps, af, g⟩ l (.int k (k.wrap (m + n))) := fun w => by
  simp [execOp, hx, hy, binOp, eqGuard, Op.intArith]
end
end
end Go.K

/-
  An owned row, as its block.
  No conditions: plain lemmas over any program.
-/
namespace Go.K
open Go.RowKit
section
variable {w0 : World} {L : List Chunk} {G : World → Prop}
theorem row_blk {b n c t size : Nat} {xs : List Value} (k : ∀ rest, Hold w0 (blk b t (xs ++ rest) :: L) G) : Hold w0 (row (.slice (some ⟨b, 0, none⟩) n c) t size n xs :: L) G := fun w hw => by
  have h := hw.2.1 _ (List.mem_cons_self)
  have ho : w.ownsRow 0 t size (.slice (some ⟨b, 0, none⟩) n c) n xs := h.1
  rcases ho.2 with ⟨hv, _⟩ | ⟨g, cap, cur, hv, _, hh, _, _, _, ht⟩
  · cases hv
  · injection hv with h1 _ _
    simp at h1
    subst h1
    refine k (cur.toList.drop (n * size)) w ⟨hw.1, fun d hd => ?_, ?_⟩
    · rcases List.mem_cons.1 hd with rfl | hd
      · refine ⟨?_, fun k hk => h.2 k (by
          have : b = k := hk.symm
          subst this; rfl)⟩
        show w.heap[b]? = _
        rw [hh, ← ht, List.take_append_drop]
      · exact hw.2.1 d (List.mem_cons_of_mem _ hd)
    · have hp := List.pairwise_cons.1 hw.2.2
      exact List.pairwise_cons.2 ⟨fun d hd k hk => hp.1 d hd k (by
        have : k = b := hk
        subst this; rfl), hp.2⟩
end
end Go.K
