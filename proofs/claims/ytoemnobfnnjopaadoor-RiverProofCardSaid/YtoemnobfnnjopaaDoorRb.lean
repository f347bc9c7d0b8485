/-
  Plain lemmas and plain functions, several texts joined.
  Conditions stand in each theorem.
-/
import Derived.Test.YtoemnobfnnjopaaDoorRows
import Derived.Test.YtoemnobfnnjopaaDoorK2
import Derived.Test.YtoemnobfnnjopaaDoorS1
import Derived.WalkKit
import Derived.ProofKit
import Derived.OpenShut
import Derived.ChangeOld
import Derived.Below
import Derived.SizedLaws
import Derived.Deep.Slices
import Derived.Deep.Fields
import Derived.ChangeSame
import Derived.Lib.SmallJoins
set_option linter.unusedSimpArgs false
set_option linter.unusedVariables false
/-
  Arguments, opened: points of rivers, numbers.
  No conditions but those in the theorems.
-/
namespace Go.Proofs.YtoemnobfnnjopaaDoor
open Go.ChangeShapes Go.WideShapes Go.Deep Go.RowKit Go.Joins
section
variable {H : Type} {enc : TypeId × Value → H} {P : Program} {w : World} {base : Nat} {spare : Nat → Bool} {held : Bool}
theorem open_slice_fields {t e : TypeId} {fs : Array Field} {fuel : Nat} {cs : List Value} {x : DataW H × List MemPlace} (ht : P.underlying t = some (.slice e)) (he : P.underlying e = some (.struct fs))
    (hone : oneCellFields P fs = true) (hC : P.cellsOf e = fs.size) (h : DataW.trod enc P w base spare held fuel t cs = some x) :
    (cs = [.slice none 0 0] ∧ x = (.nil, [])) ∨
    ∃ (a : Addr) (len cap m : Nat) (D : Nat → DataW H) (Pl : Nat → List MemPlace), cs = [.slice (some a) len cap] ∧ base ≤ a.block ∧ len ≤ cap ∧ cap ≤ maxLen ∧ m = (if spare a.block then cap else len) ∧
      x = (.slice ((List.range len).map D) ((List.range (m - len)).map fun j => D (len + j)), MemPlace.row a (m * fs.size) ++ (List.range m).flatMap Pl) ∧
      ∀ i, i < m → ∃ (ys : List (DataW H × List MemPlace)) (n : Nat), D i = .agg (ys.map (·.1)) ∧ Pl i = ys.flatMap (·.2) ∧ ys.length = fs.size ∧
        ∀ (j : Nat) (f : Field), fs[j]? = some f → ∃ (v : Value) (y : DataW H × List MemPlace), w.cell? (a.add (i * fs.size + j)) = some v ∧ ys[j]? = some y ∧ DataW.trod enc P w base spare held n f.type [v] = some y := by
  rcases open_slice ht h with h0 | ⟨a, len, cap, m, n, D, Pl, hcs, hb, hl, hm, hmm, hx, hi⟩
  · exact .inl h0
  · refine .inr ⟨a, len, cap, m, D, Pl, hcs, hb, hl, hm, hmm, by rw [hC] at hx; exact hx, fun i him => ?_⟩
    obtain ⟨cs', hc, ht'⟩ := hi i him
    rw [hC] at hc
    obtain ⟨ys, n', hn', hy, hlen, hyl, hf⟩ := DataW.trod_struct he ht'
    obtain ⟨_, hcl, hat⟩ := World.cells?_some hc
    simp only [Prod.mk.injEq] at hy
    refine ⟨ys, n', hy.1, hy.2, hyl, fun j f hj => ?_⟩
    obtain ⟨ho, hk⟩ := hone_of hone j f hj
    have hjl : j < fs.size := (Array.getElem?_eq_some_iff.1 hj).1
    have hcell := hat j hjl
    have hv : cs'[j]? = some (cs'[j]'(by omega)) := List.getElem?_eq_getElem (by omega)
    have h1 := hf j f hj
    rw [ho, hk] at h1
    have hone' : (cs'.drop j).take 1 = [cs'[j]'(by omega)] := by
      rw [List.drop_eq_getElem_cons (by omega)]
      rfl
    rw [hone'] at h1
    have hys : ys[j]? = some (ys[j]'(by omega)) := List.getElem?_eq_getElem (by omega)
    refine ⟨_, _, ?_, hys, h1.trans hys⟩
    rw [← Go.Deep.add_add, hcell, hv]
theorem list_of {E : Type} [Inhabited E] {Q : Nat → E → Prop} : ∀ {n : Nat}, (∀ i, i < n → ∃ x, Q i x) → ∃ xs : List E, xs.length = n ∧ ∀ i x, xs[i]? = some x → Q i x
  | 0, _ => ⟨[], rfl, fun i x h => by simp at h⟩
  | n + 1, h => by
    obtain ⟨xs, hl, hq⟩ := list_of (n := n) (Q := Q) (fun i hi => h i (by omega))
    obtain ⟨x, hx⟩ := h n (by omega)
    refine ⟨xs ++ [x], by simp [hl], fun i y hy => ?_⟩
    rw [List.getElem?_append] at hy
    split at hy
    · exact hq i y hy
    · rename_i h1
      have : i = n := by
        rcases Nat.lt_or_ge (i - xs.length) 1 with h2 | h2
        · omega
        · rw [List.getElem?_eq_none (by simpa using h2)] at hy; cases hy
      subst this
      rw [hl, Nat.sub_self] at hy
      simp at hy
      subst hy; exact hx
/-- A slice that came in: what it is, and how long its datum. -/
def SlD {E : Type} (w : World) (size : Nat) (e : E → List Value) (v : Value) (d : DataW H) (A : Option Addr) (c : Nat) (xs : List E) : Prop :=
  v = .slice A xs.length c ∧ K.Rd w A size e xs ∧ (d = .nil ∧ xs = [] ∨ ∃ el rest, d = .slice el rest ∧ el.length = xs.length)
theorem trod_one {t e : TypeId} {v : Value} {d : DataW H} {p : List MemPlace} {b0 : Nat} (ht : P.underlying t = some (.slice e)) (hv : Value.okWide P w .any b0 t v) (h : DataW.Trod enc P w base spare held t v d p) : ∃ fuel, DataW.trod enc P w base spare held fuel t [v] = some (d, p) := by
  obtain ⟨a, n, c, rfl⟩ := okWide_slice ht hv
  obtain ⟨fuel, hf⟩ := h
  exact ⟨fuel, by simpa [Value.cells] using hf⟩
theorem slice_points {t e : TypeId} {f0 f1 f2 f3 : Field} {fuel : Nat} {v : Value} {y : DataW H × List MemPlace} (ht : P.underlying t = some (.slice e)) (he : P.underlying e = some (.struct #[f0, f1, f2, f3])) (hone : oneCellFields P #[f0, f1, f2, f3] = true) (hC : P.cellsOf e = 4)
    (h0 : P.underlying f0.type = some .string) (h1 : P.underlying f1.type = some (.int .i64)) (h2 : P.underlying f2.type = some (.int .i64)) (h3 : P.underlying f3.type = some (.int .i64)) (h : DataW.trod enc P w base spare held fuel t [v] = some y) :
    ∃ A c xs, SlD w 4 eR v y.1 A c xs := by
  rcases open_slice_fields ht he hone hC h with ⟨hcs, hx⟩ | ⟨a, len, cap, m, D, Pl, hcs, _, hl, hm, hmm, hx, hi⟩
  · simp at hcs; subst hcs
    exact ⟨none, 0, [], rfl, K.Rd.nil, .inl ⟨by rw [hx], rfl⟩⟩
  · simp at hcs; subst hcs
    have hlm : len ≤ m := by rw [hmm]; split <;> omega
    obtain ⟨xs, hxl, hq⟩ := list_of (n := len) (Q := fun i (x : RvT) => w.cell? (a.add (i * 4)) = some (.string x.nm) ∧ w.cell? (a.add (i * 4 + 1)) = some (.int .i64 x.dn) ∧ w.cell? (a.add (i * 4 + 2)) = some (.int .i64 x.ls) ∧ w.cell? (a.add (i * 4 + 3)) = some (.int .i64 x.ht)) (fun i hil => by
      obtain ⟨ys, n, _, _, _, hf⟩ := hi i (by omega)
      obtain ⟨v0, y0, hc0, _, ht0⟩ := hf 0 f0 rfl
      obtain ⟨v1, y1, hc1, _, ht1⟩ := hf 1 f1 rfl
      obtain ⟨v2, y2, hc2, _, ht2⟩ := hf 2 f2 rfl
      obtain ⟨v3, y3, hc3, _, ht3⟩ := hf 3 f3 rfl
      obtain ⟨a0, e0, _, _⟩ := DataW.trod_string h0 ht0
      obtain ⟨a1, e1, _, _⟩ := DataW.trod_int h1 ht1
      obtain ⟨a2, e2, _, _⟩ := DataW.trod_int h2 ht2
      obtain ⟨a3, e3, _, _⟩ := DataW.trod_int h3 ht3
      simp at e0 e1 e2 e3; subst e0 e1 e2 e3
      exact ⟨⟨a0, a1, a2, a3⟩, hc0, hc1, hc2, hc3⟩)
    refine ⟨some a, cap, xs, by rw [hxl], fun k x hk => ?_, .inr ⟨_, _, by rw [hx], by simp [hxl]⟩⟩
    obtain ⟨q0, q1, q2, q3⟩ := hq k x hk
    refine ⟨a, rfl, ?_, fun j u hu => ?_⟩
    · have := World.block_lt_of_cell? w _ q0
      rwa [K.addr_block] at this
    · match j with
      | 0 => simp [eR] at hu; subst hu; rw [K.addr_add0]; exact q0
      | 1 => simp [eR] at hu; subst hu; rw [Go.Deep.add_add]; exact q1
      | 2 => simp [eR] at hu; subst hu; rw [Go.Deep.add_add]; exact q2
      | 3 => simp [eR] at hu; subst hu; rw [Go.Deep.add_add]; exact q3
      | j + 4 => simp [eR] at hu
end
section
variable {H : Type} {w : World} {n c : Nat} {v : Value} {d : DataW H} {A : Option Addr}
theorem sld_len {E : Type} {e : E → List Value} {xs : List E} {t et b : Nat} (h : SlD w n e v d A c xs) (ht : Tryd.prog.underlying t = some (.slice et)) (hb : Tryd.prog.bytesOf et = b) (h8 : 8 ≤ b) (hs : ∀ n ∈ d.weights Tryd.prog t, n ≤ reachBytes) : xs.length ≤ 17592186043904 := by
  rcases h.2.2 with ⟨_, rfl⟩ | ⟨el, rest, rfl, hl⟩
  · simp
  · have h1 := hs ((el.length + rest.length) * b) (by simp [DataW.weights, ht, hb])
    have h2 : (el.length + rest.length) * 8 ≤ (el.length + rest.length) * b := Nat.mul_le_mul_left _ h8
    have h3 : reachBytes ≤ 140737488351232 := by decide
    omega
end
section
variable {H : Type} {enc : TypeId × Value → H} {w : World} {base : Nat} {spare : Nat → Bool} {held : Bool}
set_option maxRecDepth 100000 in
/-- The points of a river that came in. -/
theorem open_rivers {b0 : Nat} {v : Value} {d : DataW H} {p : List MemPlace} (hv : Value.okWide Tryd.prog w .any b0 22 v) (h : DataW.Trod enc Tryd.prog w base spare held 22 v d p) (hs : ∀ n ∈ d.weights Tryd.prog 22, n ≤ reachBytes) :
    ∃ (A : Option Addr) (c : Nat) (r : List RvT), v = .slice A r.length c ∧ K.Rd w A 4 eR r ∧ r.length ≤ 17592186043904 := by
  obtain ⟨fuel, hf⟩ := trod_one Tryd.underlying22 hv h
  obtain ⟨A, c, xs, s3⟩ := slice_points (v := v) Tryd.underlying22 Tryd.underlying44 (by kernel_rfl) (by kernel_rfl) Tryd.underlying9 Tryd.underlying3 Tryd.underlying3 Tryd.underlying3 hf
  have l3 := sld_len s3 Tryd.underlying22 (b := 40) (by kernel_rfl) (by omega) hs
  obtain ⟨rfl, r3, _⟩ := s3
  exact ⟨A, c, xs, rfl, r3, l3⟩
set_option maxRecDepth 100000 in
/-- Numbers that came in. -/
theorem open_u16s {b0 : Nat} {v : Value} {d : DataW H} {p : List MemPlace} (hv : Value.okWide Tryd.prog w .any b0 39 v) (h : DataW.Trod enc Tryd.prog w base spare held 39 v d p) (hs : ∀ n ∈ d.weights Tryd.prog 39, n ≤ reachBytes) : ∃ (Y : Option Addr) (cy : Nat) (ys : List Int), v = .slice Y ys.length cy ∧ K.Rd w Y 1 eH ys ∧ (∀ x ∈ ys, 0 ≤ x ∧ x ≤ 65535) ∧ ys.length ≤ 140737488351232 := by
  obtain ⟨fuel, hf⟩ := trod_one Tryd.underlying39 hv h
  rcases open_ints Tryd.underlying39 Tryd.underlying40 (by kernel_rfl) hf with ⟨hcs, hx⟩ | ⟨a, len, cap, zs, hcs, _, hl, hm, hz, hx, hcell, hwf⟩
  · simp at hcs; subst hcs
    exact ⟨none, 0, [], rfl, K.Rd.nil, by simp, by simp⟩
  · simp at hcs; subst hcs
    have hlz : len ≤ zs.length := by rw [hz]; split <;> omega
    have hlen : (zs.take len).length = len := by rw [List.length_take]; omega
    refine ⟨some a, cap, zs.take len, by rw [hlen], fun k x hk => ?_, fun x hx => bounds_u16 (hwf x (List.mem_of_mem_take hx)), ?_⟩
    · have hk1 : k < len := by have := (List.getElem?_eq_some_iff.1 hk).1; omega
      have hc1 := hcell k (by omega)
      have hzk : zs.getD k 0 = x := by
        rw [List.getElem?_take, if_pos hk1] at hk
        rw [List.getD_eq_getElem?_getD, hk]; rfl
      rw [hzk] at hc1
      refine ⟨a, rfl, ?_, fun j u hu => ?_⟩
      · have := World.block_lt_of_cell? w _ hc1
        rwa [K.addr_block] at this
      · cases j with
        | zero => simp [eH] at hu; subst hu; rw [Nat.mul_one, K.addr_add0]; exact hc1
        | succ j => simp [eH] at hu
    · have hb1 : Tryd.prog.bytesOf 40 = 2 := by kernel_rfl
      simp only [Prod.mk.injEq] at hx
      rw [hx.1] at hs
      have h1 := hs (zs.length * 2) (by simp [DataW.weights, Tryd.underlying39, hb1]; left; simp [lits]; omega)
      have h3 : reachBytes ≤ 140737488351232 := by decide
      omega
end
end Go.Proofs.YtoemnobfnnjopaaDoor
