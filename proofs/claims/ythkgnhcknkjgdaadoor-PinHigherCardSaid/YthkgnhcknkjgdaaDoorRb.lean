/-
  Plain lemmas and plain functions, several texts joined.
  Conditions stand in each theorem.
-/
import Derived.Test.YthkgnhcknkjgdaaDoorRows
import Derived.Test.YthkgnhcknkjgdaaDoorK2
import Derived.Test.YthkgnhcknkjgdaaDoorSB
import Derived.WalkKit
import Derived.ProofKit
import Derived.OpenShut
import Derived.ChangeOld
import Derived.Below
import Derived.SizedLaws
import Derived.Deep.Slices
import Derived.Deep.Fields
import Derived.ChangeSame
import Derived.Lib.SmallJoins
set_option linter.unusedSimpArgs false
set_option linter.unusedVariables false
/-
  Arguments, opened: a model, numbers.
  No conditions but those in the theorems.
-/
namespace Go.Proofs.YthkgnhcknkjgdaaDoor
open Go.ChangeShapes Go.WideShapes Go.Deep Go.RowKit Go.Joins
section
variable {H : Type} {enc : TypeId × Value → H} {P : Program} {w : World} {base : Nat} {spare : Nat → Bool} {held : Bool}
theorem open_slice_fields {t e : TypeId} {fs : Array Field} {fuel : Nat} {cs : List Value} {x : DataW H × List MemPlace} (ht : P.underlying t = some (.slice e)) (he : P.underlying e = some (.struct fs))
    (hone : oneCellFields P fs = true) (hC : P.cellsOf e = fs.size) (h : DataW.trod enc P w base spare held fuel t cs = some x) :
    (cs = [.slice none 0 0] ∧ x = (.nil, [])) ∨
    ∃ (a : Addr) (len cap m : Nat) (D : Nat → DataW H) (Pl : Nat → List MemPlace), cs = [.slice (some a) len cap] ∧ base ≤ a.block ∧ len ≤ cap ∧ cap ≤ maxLen ∧ m = (if spare a.block then cap else len) ∧
      x = (.slice ((List.range len).map D) ((List.range (m - len)).map fun j => D (len + j)), MemPlace.row a (m * fs.size) ++ (List.range m).flatMap Pl) ∧
      ∀ i, i < m → ∃ (ys : List (DataW H × List MemPlace)) (n : Nat), D i = .agg (ys.map (·.1)) ∧ Pl i = ys.flatMap (·.2) ∧ ys.length = fs.size ∧
        ∀ (j : Nat) (f : Field), fs[j]? = some f → ∃ (v : Value) (y : DataW H × List MemPlace), w.cell? (a.add (i * fs.size + j)) = some v ∧ ys[j]? = some y ∧ DataW.trod enc P w base spare held n f.type [v] = some y := by
  rcases open_slice ht h with h0 | ⟨a, len, cap, m, n, D, Pl, hcs, hb, hl, hm, hmm, hx, hi⟩
  · exact .inl h0
  · refine .inr ⟨a, len, cap, m, D, Pl, hcs, hb, hl, hm, hmm, by rw [hC] at hx; exact hx, fun i him => ?_⟩
    obtain ⟨cs', hc, ht'⟩ := hi i him
    rw [hC] at hc
    obtain ⟨ys, n', hn', hy, hlen, hyl, hf⟩ := DataW.trod_struct he ht'
    obtain ⟨_, hcl, hat⟩ := World.cells?_some hc
    simp only [Prod.mk.injEq] at hy
    refine ⟨ys, n', hy.1, hy.2, hyl, fun j f hj => ?_⟩
    obtain ⟨ho, hk⟩ := hone_of hone j f hj
    have hjl : j < fs.size := (Array.getElem?_eq_some_iff.1 hj).1
    have hcell := hat j hjl
    have hv : cs'[j]? = some (cs'[j]'(by omega)) := List.getElem?_eq_getElem (by omega)
    have h1 := hf j f hj
    rw [ho, hk] at h1
    have hone' : (cs'.drop j).take 1 = [cs'[j]'(by omega)] := by
      rw [List.drop_eq_getElem_cons (by omega)]
      rfl
    rw [hone'] at h1
    have hys : ys[j]? = some (ys[j]'(by omega)) := List.getElem?_eq_getElem (by omega)
    refine ⟨_, _, ?_, hys, h1.trans hys⟩
    rw [← Go.Deep.add_add, hcell, hv]
theorem open_agg5 {r : Reach} {b0 : Nat} {t : TypeId} {f0 f1 f2 f3 f4 : Field} {v : Value} {d : DataW H} {p : List MemPlace} (hs : P.underlying t = some (.struct #[f0, f1, f2, f3, f4])) (hone : oneCellFields P #[f0, f1, f2, f3, f4] = true) (hC : P.cellsOf t = 5)
    (hv : Value.okWide P w r b0 t v) (h : DataW.Trod enc P w base spare held t v d p) :
    ∃ (v0 v1 v2 v3 v4 : Value) (y0 y1 y2 y3 y4 : DataW H × List MemPlace) (n : Nat), v = .agg #[v0, v1, v2, v3, v4] ∧ d = .agg [y0.1, y1.1, y2.1, y3.1, y4.1] ∧ p = y0.2 ++ (y1.2 ++ (y2.2 ++ (y3.2 ++ y4.2))) ∧
      DataW.trod enc P w base spare held n f0.type [v0] = some y0 ∧ DataW.trod enc P w base spare held n f1.type [v1] = some y1 ∧ DataW.trod enc P w base spare held n f2.type [v2] = some y2 ∧ DataW.trod enc P w base spare held n f3.type [v3] = some y3 ∧ DataW.trod enc P w base spare held n f4.type [v4] = some y4 := by
  obtain ⟨cs, rfl, hsz⟩ := okWide_struct hs hv
  obtain ⟨l⟩ := cs
  match l, hsz.trans hC with
  | [c0, c1, c2, c3, c4], _ =>
    obtain ⟨fuel, hf⟩ := h
    obtain ⟨xs, n, _, hx, _, hlen, hg⟩ := DataW.trod_struct hs hf
    obtain ⟨o0, k0⟩ := hone_of hone 0 f0 rfl
    obtain ⟨o1, k1⟩ := hone_of hone 1 f1 rfl
    obtain ⟨o2, k2⟩ := hone_of hone 2 f2 rfl
    obtain ⟨o3, k3⟩ := hone_of hone 3 f3 rfl
    obtain ⟨o4, k4⟩ := hone_of hone 4 f4 rfl
    match xs, hlen with
    | [y0, y1, y2, y3, y4], _ =>
      simp only [Prod.mk.injEq] at hx
      exact ⟨c0, c1, c2, c3, c4, y0, y1, y2, y3, y4, n, rfl, by simpa using hx.1, by simpa using hx.2, by simpa [Value.cells, o0, k0] using hg 0 f0 rfl, by simpa [Value.cells, o1, k1] using hg 1 f1 rfl, by simpa [Value.cells, o2, k2] using hg 2 f2 rfl, by simpa [Value.cells, o3, k3] using hg 3 f3 rfl, by simpa [Value.cells, o4, k4] using hg 4 f4 rfl⟩
theorem list_of {E : Type} [Inhabited E] {Q : Nat → E → Prop} : ∀ {n : Nat}, (∀ i, i < n → ∃ x, Q i x) → ∃ xs : List E, xs.length = n ∧ ∀ i x, xs[i]? = some x → Q i x
  | 0, _ => ⟨[], rfl, fun i x h => by simp at h⟩
  | n + 1, h => by
    obtain ⟨xs, hl, hq⟩ := list_of (n := n) (Q := Q) (fun i hi => h i (by omega))
    obtain ⟨x, hx⟩ := h n (by omega)
    refine ⟨xs ++ [x], by simp [hl], fun i y hy => ?_⟩
    rw [List.getElem?_append] at hy
    split at hy
    · exact hq i y hy
    · rename_i h1
      have : i = n := by
        rcases Nat.lt_or_ge (i - xs.length) 1 with h2 | h2
        · omega
        · rw [List.getElem?_eq_none (by simpa using h2)] at hy; cases hy
      subst this
      rw [hl, Nat.sub_self] at hy
      simp at hy
      subst hy; exact hx
/-- A slice that came in: what it is, and how long its datum. -/
def SlD {E : Type} (w : World) (size : Nat) (e : E → List Value) (v : Value) (d : DataW H) (A : Option Addr) (c : Nat) (xs : List E) : Prop :=
  v = .slice A xs.length c ∧ K.Rd w A size e xs ∧ (d = .nil ∧ xs = [] ∨ ∃ el rest, d = .slice el rest ∧ el.length = xs.length)
theorem slice_ints {t e : TypeId} {fuel : Nat} {v : Value} {y : DataW H × List MemPlace} (ht : P.underlying t = some (.slice e)) (he : P.underlying e = some (.int .i64)) (hc : P.cellsOf e = 1) (h : DataW.trod enc P w base spare held fuel t [v] = some y) :
    ∃ A c xs, SlD w 1 K.eI v y.1 A c xs := by
  rcases open_ints ht he hc h with ⟨hcs, hx⟩ | ⟨a, len, cap, zs, hcs, _, hl, hm, hz, hx, hcell, _⟩
  · simp at hcs; subst hcs
    exact ⟨none, 0, [], rfl, K.Rd.nil, .inl ⟨by rw [hx], rfl⟩⟩
  · simp at hcs; subst hcs
    have hlz : len ≤ zs.length := by rw [hz]; split <;> omega
    have hlen : (zs.take len).length = len := by rw [List.length_take]; omega
    refine ⟨some a, cap, zs.take len, by rw [hlen], fun k x hk => ?_, .inr ⟨_, _, by rw [hx], by simp [lits]⟩⟩
    have hk1 : k < len := by have := (List.getElem?_eq_some_iff.1 hk).1; omega
    have hc1 := hcell k (by omega)
    have hzk : zs.getD k 0 = x := by
      rw [List.getElem?_take, if_pos hk1] at hk
      rw [List.getD_eq_getElem?_getD, hk]; rfl
    rw [hzk] at hc1
    refine ⟨a, rfl, ?_, fun j u hu => ?_⟩
    · have := World.block_lt_of_cell? w _ hc1
      rwa [K.addr_block] at this
    · cases j with
      | zero => simp [K.eI] at hu; subst hu; rw [Nat.mul_one, K.addr_add0]; exact hc1
      | succ j => simp [K.eI] at hu
theorem trod_one {t e : TypeId} {v : Value} {d : DataW H} {p : List MemPlace} {b0 : Nat} (ht : P.underlying t = some (.slice e)) (hv : Value.okWide P w .any b0 t v) (h : DataW.Trod enc P w base spare held t v d p) : ∃ fuel, DataW.trod enc P w base spare held fuel t [v] = some (d, p) := by
  obtain ⟨a, n, c, rfl⟩ := okWide_slice ht hv
  obtain ⟨fuel, hf⟩ := h
  exact ⟨fuel, by simpa [Value.cells] using hf⟩
theorem slice_pins {t e : TypeId} {f0 f1 f2 f3 f4 : Field} {fuel : Nat} {v : Value} {y : DataW H × List MemPlace} (ht : P.underlying t = some (.slice e)) (he : P.underlying e = some (.struct #[f0, f1, f2, f3, f4])) (hone : oneCellFields P #[f0, f1, f2, f3, f4] = true) (hC : P.cellsOf e = 5)
    (h0 : P.underlying f0.type = some .string) (h1 : P.underlying f1.type = some (.int .i64)) (h2 : P.underlying f2.type = some (.int .i64)) (h3 : P.underlying f3.type = some (.int .i64)) (h4 : P.underlying f4.type = some (.int .i64)) (h : DataW.trod enc P w base spare held fuel t [v] = some y) :
    ∃ A c xs, SlD w 5 eN v y.1 A c xs := by
  rcases open_slice_fields ht he hone hC h with ⟨hcs, hx⟩ | ⟨a, len, cap, m, D, Pl, hcs, _, hl, hm, hmm, hx, hi⟩
  · simp at hcs; subst hcs
    exact ⟨none, 0, [], rfl, K.Rd.nil, .inl ⟨by rw [hx], rfl⟩⟩
  · simp at hcs; subst hcs
    have hlm : len ≤ m := by rw [hmm]; split <;> omega
    obtain ⟨xs, hxl, hq⟩ := list_of (n := len) (Q := fun i (x : PinT) => w.cell? (a.add (i * 5)) = some (.string x.nm) ∧ w.cell? (a.add (i * 5 + 1)) = some (.int .i64 x.x) ∧ w.cell? (a.add (i * 5 + 2)) = some (.int .i64 x.y) ∧ w.cell? (a.add (i * 5 + 3)) = some (.int .i64 x.len) ∧ w.cell? (a.add (i * 5 + 4)) = some (.int .i64 x.most)) (fun i hil => by
      obtain ⟨ys, n, _, _, _, hf⟩ := hi i (by omega)
      obtain ⟨v0, y0, hc0, _, ht0⟩ := hf 0 f0 rfl
      obtain ⟨v1, y1, hc1, _, ht1⟩ := hf 1 f1 rfl
      obtain ⟨v2, y2, hc2, _, ht2⟩ := hf 2 f2 rfl
      obtain ⟨v3, y3, hc3, _, ht3⟩ := hf 3 f3 rfl
      obtain ⟨v4, y4, hc4, _, ht4⟩ := hf 4 f4 rfl
      obtain ⟨a0, e0, _, _⟩ := DataW.trod_string h0 ht0
      obtain ⟨a1, e1, _, _⟩ := DataW.trod_int h1 ht1
      obtain ⟨a2, e2, _, _⟩ := DataW.trod_int h2 ht2
      obtain ⟨a3, e3, _, _⟩ := DataW.trod_int h3 ht3
      obtain ⟨a4, e4, _, _⟩ := DataW.trod_int h4 ht4
      simp at e0 e1 e2 e3 e4; subst e0 e1 e2 e3 e4
      exact ⟨⟨a0, a1, a2, a3, a4⟩, hc0, hc1, hc2, hc3, hc4⟩)
    refine ⟨some a, cap, xs, by rw [hxl], fun k x hk => ?_, .inr ⟨_, _, by rw [hx], by simp [hxl]⟩⟩
    obtain ⟨q0, q1, q2, q3, q4⟩ := hq k x hk
    refine ⟨a, rfl, ?_, fun j u hu => ?_⟩
    · have := World.block_lt_of_cell? w _ q0
      rwa [K.addr_block] at this
    · match j with
      | 0 => simp [eN] at hu; subst hu; rw [K.addr_add0]; exact q0
      | 1 => simp [eN] at hu; subst hu; rw [Go.Deep.add_add]; exact q1
      | 2 => simp [eN] at hu; subst hu; rw [Go.Deep.add_add]; exact q2
      | 3 => simp [eN] at hu; subst hu; rw [Go.Deep.add_add]; exact q3
      | 4 => simp [eN] at hu; subst hu; rw [Go.Deep.add_add]; exact q4
      | j + 5 => simp [eN] at hu
theorem slice_stands {t e e2 : TypeId} {f0 f1 f2 g0 g1 : Field} {fuel : Nat} {v : Value} {y : DataW H × List MemPlace} (ht : P.underlying t = some (.slice e)) (he : P.underlying e = some (.struct #[f0, f1, f2])) (he2 : P.underlying e2 = some (.struct #[g0, g1])) (hC : P.cellsOf e = 4) (hC2 : P.cellsOf e2 = 2) (o0 : f0.offset = 0) (o1 : f1.offset = 1) (o2 : f2.offset = 2) (t2 : f2.type = e2) (c0 : P.cellsOf f0.type = 1) (c1 : P.cellsOf f1.type = 1)
    (q0 : g0.offset = 0) (q1 : g1.offset = 1) (d0 : P.cellsOf g0.type = 1) (d1 : P.cellsOf g1.type = 1) (h0 : P.underlying f0.type = some (.int .i64)) (h1 : P.underlying f1.type = some (.int .i64)) (i0 : P.underlying g0.type = some (.int .i64)) (i1 : P.underlying g1.type = some (.int .i64)) (h : DataW.trod enc P w base spare held fuel t [v] = some y) :
    ∃ A c xs, SlD w 4 eS v y.1 A c xs := by
  rcases open_slice ht h with ⟨hcs, hx⟩ | ⟨a, len, cap, m, n, D, Pl, hcs, _, hl, hm, hmm, hx, hi⟩
  · simp at hcs; subst hcs
    exact ⟨none, 0, [], rfl, K.Rd.nil, .inl ⟨by rw [hx], rfl⟩⟩
  · simp at hcs; subst hcs
    have hlm : len ≤ m := by rw [hmm]; split <;> omega
    obtain ⟨xs, hxl, hq⟩ := list_of (n := len) (Q := fun i (x : StT) => w.cell? (a.add (i * 4)) = some (.int .i64 x.x) ∧ w.cell? ((a.add (i * 4)).add 1) = some (.int .i64 x.y) ∧ w.cell? ((a.add (i * 4)).add 2) = some (.int .i64 x.lo) ∧ w.cell? ((a.add (i * 4)).add 3) = some (.int .i64 x.hi)) (fun i hil => by
      obtain ⟨cs', hc, ht'⟩ := hi i (by omega)
      rw [hC] at hc
      obtain ⟨_, hcl, hat⟩ := World.cells?_some hc
      obtain ⟨ys, n', _, _, _, hyl, hf⟩ := DataW.trod_struct he ht'
      match cs', hcl with
      | [x0, x1, x2, x3], _ =>
        have r0 := hf 0 f0 rfl
        have r1 := hf 1 f1 rfl
        have r2 := hf 2 f2 rfl
        rw [o0, c0] at r0
        rw [o1, c1] at r1
        rw [o2, t2, hC2] at r2
        match ys, hyl with
        | [y0, y1, y2], _ =>
          simp at r0 r1 r2
          obtain ⟨ys2, n2, _, _, _, hyl2, hf2⟩ := DataW.trod_struct he2 r2
          have s0 := hf2 0 g0 rfl
          have s1 := hf2 1 g1 rfl
          rw [q0, d0] at s0
          rw [q1, d1] at s1
          match ys2, hyl2 with
          | [z0, z1], _ =>
            simp at s0 s1
            obtain ⟨k0, e0, _, _⟩ := DataW.trod_int h0 r0
            obtain ⟨k1, e1, _, _⟩ := DataW.trod_int h1 r1
            obtain ⟨k2, e2, _, _⟩ := DataW.trod_int i0 s0
            obtain ⟨k3, e3, _, _⟩ := DataW.trod_int i1 s1
            simp at e0 e1 e2 e3; subst e0 e1 e2 e3
            have a0 := hat 0 (by omega)
            have a1 := hat 1 (by omega)
            have a2 := hat 2 (by omega)
            have a3 := hat 3 (by omega)
            simp only [List.getElem?_cons_zero, List.getElem?_cons_succ] at a0 a1 a2 a3
            refine ⟨⟨k0, k1, k2, k3⟩, ?_, a1, a2, a3⟩
            rw [← a0, K.addr_add0])
    refine ⟨some a, cap, xs, by rw [hxl], fun k x hk => ?_, .inr ⟨_, _, by rw [hx], by simp [hxl]⟩⟩
    obtain ⟨w0, w1, w2, w3⟩ := hq k x hk
    refine ⟨a, rfl, ?_, fun j u hu => ?_⟩
    · have := World.block_lt_of_cell? w _ w0
      rwa [K.addr_block] at this
    · match j with
      | 0 => simp [eS] at hu; subst hu; rw [K.addr_add0]; exact w0
      | 1 => simp [eS] at hu; subst hu; exact w1
      | 2 => simp [eS] at hu; subst hu; exact w2
      | 3 => simp [eS] at hu; subst hu; exact w3
      | j + 4 => simp [eS] at hu
theorem slice_cap {t e : TypeId} {fuel : Nat} {A : Option Addr} {n c : Nat} {y : DataW H × List MemPlace} (ht : P.underlying t = some (.slice e)) (h : DataW.trod enc P w base spare held fuel t [.slice A n c] = some y) : n ≤ c := by
  rcases open_slice ht h with ⟨hcs, _⟩ | ⟨a, len, cap, m, _, D, Pl, hcs, _, hl, _⟩
  · simp at hcs; omega
  · simp at hcs; omega
end
section
variable {H : Type} {w : World} {n c : Nat} {v : Value} {d : DataW H} {A : Option Addr}
theorem sld_len {E : Type} {e : E → List Value} {xs : List E} {t et b : Nat} (h : SlD w n e v d A c xs) (ht : Tryd.prog.underlying t = some (.slice et)) (hb : Tryd.prog.bytesOf et = b) (h8 : 8 ≤ b) (hs : ∀ n ∈ d.weights Tryd.prog t, n ≤ reachBytes) : xs.length ≤ 17592186043904 := by
  rcases h.2.2 with ⟨_, rfl⟩ | ⟨el, rest, rfl, hl⟩
  · simp
  · have h1 := hs ((el.length + rest.length) * b) (by simp [DataW.weights, ht, hb])
    have h2 : (el.length + rest.length) * 8 ≤ (el.length + rest.length) * b := Nat.mul_le_mul_left _ h8
    have h3 : reachBytes ≤ 140737488351232 := by decide
    omega
end
section
variable {H : Type} {enc : TypeId × Value → H} {P : Program} {w : World} {base : Nat} {spare : Nat → Bool} {held : Bool}
/-- An array of numbers that came in. -/
theorem open_nums {k : IntKind} {b0 n t e : Nat} {v : Value} {d : DataW H} {p : List MemPlace} (ht : P.underlying t = some (.array n e)) (he : P.underlying e = some (.int k)) (hc : P.cellsOf t = n) (h1 : P.cellsOf e = 1) (hv : Value.okWide P w .any b0 t v) (h : DataW.Trod enc P w base spare held t v d p) :
    ∃ xs : List Int, xs.length = n ∧ v = .agg (xs.map (Value.int k)).toArray ∧ ∀ x ∈ xs, (Lit.int k x).wf = true := by
  simp only [Value.okWide, ht] at hv
  obtain ⟨cs, rfl, hsz, _⟩ := hv
  obtain ⟨fuel, hf⟩ := h
  obtain ⟨ys, m, _, _, hl, hyl, hi⟩ := DataW.trod_array ht hf
  have hcl : cs.toList.length = n := by simpa [hc] using hsz
  obtain ⟨xs, hxl, hq⟩ := list_of (n := n) (Q := fun i (x : Int) => cs.toList[i]? = some (.int k x) ∧ (Lit.int k x).wf = true) (fun i hil => by
    have h2 := hi i hil
    rw [h1, Nat.mul_one] at h2
    have h3 : ((Value.agg cs).cells.toList.drop i).take 1 = [cs.toList[i]'(by omega)] := by
      show (cs.toList.drop i).take 1 = _
      rw [List.drop_eq_getElem_cons (by omega)]; rfl
    rw [h3, List.getElem?_eq_getElem (by omega)] at h2
    obtain ⟨a, ea, _, wa⟩ := DataW.trod_int he h2
    simp at ea
    exact ⟨a, by rw [List.getElem?_eq_getElem (by omega)]; simpa using ea, wa⟩)
  refine ⟨xs, hxl, ?_, fun x hx => ?_⟩
  · congr 1
    apply Array.ext'
    apply List.ext_getElem?
    intro i
    rcases Nat.lt_or_ge i n with h4 | h4
    · have h5 : xs[i]? = some (xs[i]'(by omega)) := List.getElem?_eq_getElem (by omega)
      rw [(hq i _ h5).1, List.getElem?_map, h5]; rfl
    · rw [List.getElem?_eq_none (by omega), List.getElem?_eq_none (by simp; omega)]
  · obtain ⟨i, hi2, rfl⟩ := List.getElem_of_mem hx
    exact (hq i _ (List.getElem?_eq_getElem hi2)).2
end
section
variable {H : Type} {enc : TypeId × Value → H} {w : World} {base : Nat} {spare : Nat → Bool} {held : Bool}
set_option maxRecDepth 100000 in
/-- A model that came in. -/
theorem open_model {b0 : Nat} {v : Value} {d : DataW H} {p : List MemPlace} (hv : Value.okWide Tryd.prog w .any b0 26 v) (h : DataW.Trod enc Tryd.prog w base spare held 26 v d p) (hs : ∀ n ∈ d.weights Tryd.prog 26, n ≤ reachBytes) :
    ∃ (m : Mod) (A B C : Option Addr) (c d e : Nat), v = .agg #[.int .i64 m.W, .int .i64 m.D, .slice A m.hs.length c, .slice B m.ps.length d, .slice C m.ss.length e] ∧ K.Rd w A 1 K.eI m.hs ∧ K.Rd w B 5 eN m.ps ∧ K.Rd w C 4 eS m.ss ∧ m.hs.length ≤ 17592186043904 ∧ m.ps.length ≤ 17592186043904 ∧ m.ss.length ≤ 17592186043904 ∧ m.ps.length ≤ d := by
  obtain ⟨v0, v1, v2, v3, v4, y0, y1, y2, y3, y4, n, rfl, rfl, _, t0, t1, t2, t3, t4⟩ := open_agg5 Tryd.underlying26 (by kernel_rfl) (by kernel_rfl) hv h
  obtain ⟨W, e0, _, w0⟩ := DataW.trod_int Tryd.underlying3 t0
  obtain ⟨D, e1, _, w1⟩ := DataW.trod_int Tryd.underlying3 t1
  simp at e0 e1; subst e0 e1
  obtain ⟨A, c, hs', s2⟩ := slice_ints Tryd.underlying22 Tryd.underlying3 (by kernel_rfl) t2
  obtain ⟨B, d, ps, s3⟩ := slice_pins Tryd.underlying23 Tryd.underlying54 (by kernel_rfl) (by kernel_rfl) Tryd.underlying9 Tryd.underlying3 Tryd.underlying3 Tryd.underlying3 Tryd.underlying3 t3
  obtain ⟨C, e, ss, s4⟩ := slice_stands Tryd.underlying24 Tryd.underlying63 Tryd.underlying61 (by kernel_rfl) (by kernel_rfl) rfl rfl rfl rfl (by kernel_rfl) (by kernel_rfl) rfl rfl (by kernel_rfl) (by kernel_rfl) Tryd.underlying3 Tryd.underlying3 Tryd.underlying3 Tryd.underlying3 t4
  have l2 := sld_len s2 Tryd.underlying22 (b := 8) (by kernel_rfl) (by omega) (fun n hn => hs n (by simp [DataW.weights, Tryd.underlying26, DataW.weightsEach, hn]))
  have l3 := sld_len s3 Tryd.underlying23 (b := 48) (by kernel_rfl) (by omega) (fun n hn => hs n (by simp [DataW.weights, Tryd.underlying26, DataW.weightsEach, hn]))
  have l4 := sld_len s4 Tryd.underlying24 (b := 32) (by kernel_rfl) (by omega) (fun n hn => hs n (by simp [DataW.weights, Tryd.underlying26, DataW.weightsEach, hn]))
  obtain ⟨rfl, r2, _⟩ := s2
  obtain ⟨rfl, r3, _⟩ := s3
  obtain ⟨rfl, r4, _⟩ := s4
  exact ⟨⟨W, D, hs', ps, ss⟩, A, B, C, c, d, e, rfl, r2, r3, r4, l2, l3, l4, slice_cap Tryd.underlying23 t3⟩
set_option maxRecDepth 100000 in
/-- A stand, a height and a pin that came in. -/
theorem open_look {b0 : Nat} {v : Value} {d : DataW H} {p : List MemPlace} (hv : Value.okWide Tryd.prog w .any b0 28 v) (h : DataW.Trod enc Tryd.prog w base spare held 28 v d p) : ∃ s eye p : Int, v = .agg #[.int .i64 s, .int .i64 eye, .int .i64 p] ∧ (-9223372036854775808 ≤ s ∧ s ≤ 9223372036854775807) ∧ (-9223372036854775808 ≤ p ∧ p ≤ 9223372036854775807) := by
  obtain ⟨cs, rfl, hsz⟩ := okWide_struct Tryd.underlying28 hv
  obtain ⟨l⟩ := cs
  have hC : Tryd.prog.cellsOf 28 = 3 := by kernel_rfl
  have hone : oneCellFields Tryd.prog (match Tryd.prog.underlying 28 with | some (.struct fs) => fs | _ => #[]) = true := by kernel_rfl
  rw [Tryd.underlying28] at hone
  match l, hsz.trans hC with
  | [c0, c1, c2], _ =>
    obtain ⟨fuel, hf⟩ := h
    obtain ⟨xs, n, _, hx, _, hlen, hg⟩ := DataW.trod_struct Tryd.underlying28 hf
    have r0 := hg 0 _ rfl
    have r1 := hg 1 _ rfl
    have r2 := hg 2 _ rfl
    obtain ⟨o0, k0⟩ := hone_of hone 0 _ rfl
    obtain ⟨o1, k1⟩ := hone_of hone 1 _ rfl
    obtain ⟨o2, k2⟩ := hone_of hone 2 _ rfl
    rw [o0, k0] at r0
    rw [o1, k1] at r1
    rw [o2, k2] at r2
    match xs, hlen with
    | [z0, z1, z2], _ =>
      simp [Value.cells] at r0 r1 r2
      obtain ⟨s, e0, _, w0⟩ := DataW.trod_int Tryd.underlying3 r0
      obtain ⟨eye, e1, _, w1⟩ := DataW.trod_int Tryd.underlying3 r1
      obtain ⟨p, e2, _, w2⟩ := DataW.trod_int Tryd.underlying3 r2
      simp at e0 e1 e2; subst e0 e1 e2
      exact ⟨s, eye, p, rfl, bounds_i64 w0, bounds_i64 w2⟩
set_option maxRecDepth 100000 in
theorem open_u2 {b0 : Nat} {v : Value} {d : DataW H} {p : List MemPlace} (hv : Value.okWide Tryd.prog w .any b0 56 v) (h : DataW.Trod enc Tryd.prog w base spare held 56 v d p) : ∃ x0 x1 : Int, v = .agg #[.int .u8 x0, .int .u8 x1] ∧ (0 ≤ x0 ∧ x0 ≤ 255) ∧ (0 ≤ x1 ∧ x1 ≤ 255) := by
  obtain ⟨xs, hl, rfl, hx⟩ := open_nums Tryd.underlying56 Tryd.underlying5 (by kernel_rfl) (by kernel_rfl) hv h
  match xs, hl with
  | [x0, x1], _ => exact ⟨x0, x1, rfl, bounds_u8 (hx _ (by simp)), bounds_u8 (hx _ (by simp))⟩
set_option maxRecDepth 100000 in
theorem open_w2 {b0 : Nat} {v : Value} {d : DataW H} {p : List MemPlace} (hv : Value.okWide Tryd.prog w .any b0 58 v) (h : DataW.Trod enc Tryd.prog w base spare held 58 v d p) : ∃ x0 x1 : Int, v = .agg #[.int .u16 x0, .int .u16 x1] ∧ (0 ≤ x0 ∧ x0 ≤ 65535) ∧ (0 ≤ x1 ∧ x1 ≤ 65535) := by
  obtain ⟨xs, hl, rfl, hx⟩ := open_nums Tryd.underlying58 Tryd.underlying57 (by kernel_rfl) (by kernel_rfl) hv h
  match xs, hl with
  | [x0, x1], _ => exact ⟨x0, x1, rfl, bounds_u16 (hx _ (by simp)), bounds_u16 (hx _ (by simp))⟩
set_option maxRecDepth 100000 in
theorem open_u3 {b0 : Nat} {v : Value} {d : DataW H} {p : List MemPlace} (hv : Value.okWide Tryd.prog w .any b0 67 v) (h : DataW.Trod enc Tryd.prog w base spare held 67 v d p) : ∃ x0 x1 x2 : Int, v = .agg #[.int .u8 x0, .int .u8 x1, .int .u8 x2] ∧ (0 ≤ x0 ∧ x0 ≤ 255) ∧ (0 ≤ x1 ∧ x1 ≤ 255) ∧ (0 ≤ x2 ∧ x2 ≤ 255) := by
  obtain ⟨xs, hl, rfl, hx⟩ := open_nums Tryd.underlying67 Tryd.underlying5 (by kernel_rfl) (by kernel_rfl) hv h
  match xs, hl with
  | [x0, x1, x2], _ => exact ⟨x0, x1, x2, rfl, bounds_u8 (hx _ (by simp)), bounds_u8 (hx _ (by simp)), bounds_u8 (hx _ (by simp))⟩
set_option maxRecDepth 100000 in
/-- Numbers that came in. -/
theorem open_u16s {b0 : Nat} {v : Value} {d : DataW H} {p : List MemPlace} (hv : Value.okWide Tryd.prog w .any b0 49 v) (h : DataW.Trod enc Tryd.prog w base spare held 49 v d p) (hs : ∀ n ∈ d.weights Tryd.prog 49, n ≤ reachBytes) : ∃ (Y : Option Addr) (cy : Nat) (ys : List Int), v = .slice Y ys.length cy ∧ K.Rd w Y 1 eH ys ∧ (∀ x ∈ ys, 0 ≤ x ∧ x ≤ 65535) ∧ ys.length ≤ 140737488351232 := by
  obtain ⟨fuel, hf⟩ := trod_one Tryd.underlying49 hv h
  rcases open_ints Tryd.underlying49 Tryd.underlying57 (by kernel_rfl) hf with ⟨hcs, hx⟩ | ⟨a, len, cap, zs, hcs, _, hl, hm, hz, hx, hcell, hwf⟩
  · simp at hcs; subst hcs
    exact ⟨none, 0, [], rfl, K.Rd.nil, by simp, by simp⟩
  · simp at hcs; subst hcs
    have hlz : len ≤ zs.length := by rw [hz]; split <;> omega
    have hlen : (zs.take len).length = len := by rw [List.length_take]; omega
    refine ⟨some a, cap, zs.take len, by rw [hlen], fun k x hk => ?_, fun x hx => bounds_u16 (hwf x (List.mem_of_mem_take hx)), ?_⟩
    · have hk1 : k < len := by have := (List.getElem?_eq_some_iff.1 hk).1; omega
      have hc1 := hcell k (by omega)
      have hzk : zs.getD k 0 = x := by
        rw [List.getElem?_take, if_pos hk1] at hk
        rw [List.getD_eq_getElem?_getD, hk]; rfl
      rw [hzk] at hc1
      refine ⟨a, rfl, ?_, fun j u hu => ?_⟩
      · have := World.block_lt_of_cell? w _ hc1
        rwa [K.addr_block] at this
      · cases j with
        | zero => simp [eH] at hu; subst hu; rw [Nat.mul_one, K.addr_add0]; exact hc1
        | succ j => simp [eH] at hu
    · have hb1 : Tryd.prog.bytesOf 57 = 2 := by kernel_rfl
      simp only [Prod.mk.injEq] at hx
      rw [hx.1] at hs
      have h1 := hs (zs.length * 2) (by simp [DataW.weights, Tryd.underlying49, hb1]; left; simp [lits]; omega)
      have h3 : reachBytes ≤ 140737488351232 := by decide
      omega
end
end Go.Proofs.YthkgnhcknkjgdaaDoor
