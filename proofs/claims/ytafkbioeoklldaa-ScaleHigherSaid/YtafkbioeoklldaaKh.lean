/-
  Results that lie in memory.
  No conditions: plain lemmas over any program.
-/
import Derived.Test.YtafkbioeoklldaaKe
import Derived.WalkSpells
set_option linter.unusedSimpArgs false
set_option linter.unusedVariables false
namespace Go.K
open Go.RowKit
section
variable {P : Program} {w0 : World} {L : List Chunk} {l : List Value}
theorem run_cellA {p : Addr} {ty n b : Nat} {e : TypeId} {cs : List Value} (ha : ag P ty = some n) (hp : p = ⟨b, 0, none⟩) (hm : blk b e cs ∈ L) (hn : Nat.beq cs.length n = true) (w : World) (hw : St w0 L w) : (loadVar ty p).run P w = .ok (.agg cs.toArray) w := by
  subst hp
  obtain ⟨h1, i, hi, hs⟩ := run_isAgg_ag ha w
  have hn' : cs.length = n := by simpa using hn
  have hc := run_loadCells_list (P := P) w ⟨b, 0, none⟩ cs (fun j v hv => by rw [add_lit, blk_cell (hw.2.1 _ hm).1, Nat.zero_add]; exact hv)
  rw [hn'] at hc
  simp [loadVar, Sem.run_bind, h1, sizeOf, typeInfo, hi, hs, hc]
theorem run_cell1 {p : Addr} {ty b : Nat} {e : TypeId} {v : Value} (ho : one P ty = true) (hp : p = ⟨b, 0, none⟩) (hm : blk b e [v] ∈ L) (w : World) (hw : St w0 L w) : (loadVar ty p).run P w = .ok v w := by
  subst hp
  have h0 : w.cell? ⟨b, 0, none⟩ = some v := by rw [blk_cell (hw.2.1 _ hm).1]; rfl
  simp [loadVar, Sem.run_bind, (run_isAgg_one ho w).1, h0]
theorem res_c {fn : Func} {p : Tmp} {ty : TypeId} {b : Nat} {v : Value} (h : fn.results = #[.cell p ty]) (hp : nth l p = .pointer (some ⟨b, 0, none⟩)) {w : World} (hv : (loadVar ty ⟨b, 0, none⟩).run P w = .ok v w) :
    (results fn l.toArray).run P w = .ok v w := by
  have hp' : l.toArray[p]?.getD undef = .pointer (some ⟨b, 0, none⟩) := by rw [← hp, nth_eq]; simp
  simp at hp'
  simp [results, h, hp', asAddr, hv]
theorem res_ct {fn : Func} {p t : Tmp} {ty : TypeId} {b : Nat} {v : Value} (h : fn.results = #[.cell p ty, .tmp t]) (hp : nth l p = .pointer (some ⟨b, 0, none⟩)) {w : World} (hv : (loadVar ty ⟨b, 0, none⟩).run P w = .ok v w) :
    (results fn l.toArray).run P w = .ok (.tuple #[v, nth l t]) w := by
  have hp' : l.toArray[p]?.getD undef = .pointer (some ⟨b, 0, none⟩) := by rw [← hp, nth_eq]; simp
  have ht : l.toArray[t]?.getD undef = nth l t := by rw [nth_eq]; simp
  simp at hp' ht
  simp [results, h, hp', ht, asAddr, hv]
theorem res_ttt {fn : Func} {t u v : Tmp} (h : fn.results = #[.tmp t, .tmp u, .tmp v]) (w : World) : (results fn l.toArray).run P w = .ok (.tuple #[nth l t, nth l u, nth l v]) w := by
  have ht : ∀ t, l.toArray[t]?.getD undef = nth l t := fun t => by rw [nth_eq]; simp
  simp at ht
  simp [results, h, ht]
end
end Go.K
namespace Go.K
open Go.RowKit
section
variable {P : Program} {w0 : World} {L : List Chunk} {l : List Value} {d : Option Tmp} {ty : TypeId} {ps : String} {af : Array Edge} {g : Option (Nat × Bool)}
theorem use_row {A : Option Addr} {n c size : Nat} {t : TypeId} {ys : List Value} {G : World → Prop} (hm : row (.slice A n c) t size n ys ∈ L) (k : (n = 0 ∨ ∃ b, A = some ⟨b, 0, none⟩) → Hold w0 L G) : Hold w0 L G := fun w hw => by
  have ho : w.ownsRow 0 t size (.slice A n c) n ys := (hw.2.1 _ hm).1
  refine k ?_ w hw
  rcases Nat.eq_zero_or_pos n with h0 | h0
  · exact .inl h0
  · obtain ⟨b, cap, hv, _⟩ := ho.form h0
    refine .inr ⟨b, ?_⟩
    injection hv
theorem Sl.of_row' {E : Type} {A : Option Addr} {n c size : Nat} {t : TypeId} {ys : List Value} {e : E → List Value} {xs : List E} (h : n = 0 ∨ ∃ b, A = some ⟨b, 0, none⟩) (hn : xs.length = n) (hl : ∀ x, (e x).length = size) (hcs : ys = xs.flatMap e) : Sl w0 [row (.slice A n c) t size n ys] A size e xs := by
  rcases h with h | ⟨b, rfl⟩
  · have : xs = [] := List.eq_nil_of_length_eq_zero (by omega)
    subst this; exact Sl.nil
  · exact Sl.of_row hl hcs
theorem index_arA {t m e n : Nat} {x y : Operand} {cs : List Value} {k : IntKind} {z : Int} (h : ar P t = some (m, e, n)) (ha : ag P e = some n) (hx : ev l x = .agg cs.toArray) (hy : ev l y = .int k z) (h0 : 0 ≤ z) (h1 : z < m) :
    Pure P ⟨d, .index t x y, ty, ps, af, g⟩ l (.agg ((cs.drop (z.toNat * n)).take n).toArray) := fun w => by
  obtain ⟨i, hs, hi, hs1⟩ := ar_spec h
  obtain ⟨ha1, j, hj, hj1⟩ := run_isAgg_ag ha w
  rw [hi] at hj; cases hj
  simp [execOp, hx, hy, Instr.index, asIntOf, Sem.run_bind, run_underlying hs w, h0, h1, sizeOf, typeInfo, hi, hs1, part, ha1]
theorem Sil.cast {o : Oper} {v u : Value} (h : Sil P w0 L o l v) (e : v = u) : Sil P w0 L o l u := e ▸ h
/-- 's == nil' for a slice. -/
theorem eql_slnil {t e n yt : Nat} {x : Operand} {A : Option Addr} {len cap : Nat} (h : sl P t = some (e, n)) (hx : ev l x = .slice A len cap) : Pure P ⟨d, .binOp .eql t x (.const (.slice none 0 0)) yt, ty, ps, af, g⟩ l (.bool A.isNone) := fun w => by
  obtain ⟨i, hs, _⟩ := sl_spec h
  have := Lib.run_eql_slice_nil (P := P) w t e A len cap 0 0 hs
  have hc : ev l (.const (.slice none 0 0)) = .slice none 0 0 := rfl
  simp only [execOp, hx, hc, eqGuard_at_slice, this, Sem.run_bind, Sem.run_pure, Result.andThen_ok]
end
theorem setn_get : ∀ (l : List Value) (i : Nat) (v : Value), i < l.length → nth (setn l i v) i = v
  | [], _, _, h => by simp at h
  | _ :: _, 0, _, _ => rfl
  | _ :: l, i + 1, v, h => by simp only [setn, nth]; exact setn_get l i v (by simpa using h)
theorem nth_map (e : Int → Value) : ∀ (xs : List Int) (i : Nat), i < xs.length → nth (xs.map e) i = e (xs.getD i default)
  | [], _, h => by simp at h
  | _ :: _, 0, _ => rfl
  | _ :: xs, i + 1, h => by simp only [List.map_cons, nth, List.getD_cons_succ]; exact nth_map e xs i (by simpa using h)
theorem not_d {P : Program} {l : List Value} {d : Option Tmp} {ty : TypeId} {ps : String} {af : Array Edge} {g : Option (Nat × Bool)} {xt : TypeId} {x : Operand} {p : Prop} [Decidable p] (hx : ev l x = .bool (decide p)) : Pure P ⟨d, .unOp .not xt x, ty, ps, af, g⟩ l (.bool (decide (¬ p))) := by
  have h := not_ (P := P) (d := d) (ty := ty) (ps := ps) (af := af) (g := g) (xt := xt) hx
  rw [← decide_not] at h
  exact h
end Go.K
