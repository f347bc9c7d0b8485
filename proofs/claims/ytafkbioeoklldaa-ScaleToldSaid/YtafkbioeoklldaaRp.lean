/-
  Plain lemmas and plain functions, several texts joined.
  Conditions stand in each theorem.
-/
import Derived.Test.YtafkbioeoklldaaRo
import Derived.Test.YtafkbioeoklldaaS7
set_option linter.unusedSimpArgs false
set_option linter.unusedVariables false
/-
  Further arguments, opened: bytes, a case with its capacities.
  No conditions but those in the theorems.
-/
namespace Go.Proofs.Ytafkbioeoklldaa
open Go.ChangeShapes Go.WideShapes Go.Deep Go.RowKit Go.Joins
section
variable {H : Type} {enc : TypeId × Value → H} {P : Program} {w : World} {base : Nat} {spare : Nat → Bool} {held : Bool}
theorem slice_bytes {t e : TypeId} {fuel : Nat} {v : Value} {y : DataW H × List MemPlace} (ht : P.underlying t = some (.slice e)) (he : P.underlying e = some (.int .u8)) (hc : P.cellsOf e = 1) (h : DataW.trod enc P w base spare held fuel t [v] = some y) :
    ∃ A c xs, SlD w 1 eB v y.1 A c xs ∧ ∀ x ∈ xs, 0 ≤ x ∧ x ≤ 255 := by
  rcases open_ints ht he hc h with ⟨hcs, hx⟩ | ⟨a, len, cap, zs, hcs, _, hl, hm, hz, hx, hcell, hwf⟩
  · simp at hcs; subst hcs
    exact ⟨none, 0, [], ⟨rfl, K.Rd.nil, .inl ⟨by rw [hx], rfl⟩⟩, by simp⟩
  · simp at hcs; subst hcs
    have hlz : len ≤ zs.length := by rw [hz]; split <;> omega
    have hlen : (zs.take len).length = len := by rw [List.length_take]; omega
    refine ⟨some a, cap, zs.take len, ⟨by rw [hlen], fun k x hk => ?_, .inr ⟨_, _, by rw [hx], by simp [lits]⟩⟩, fun x hx => bounds_u8 (hwf x (List.mem_of_mem_take hx))⟩
    have hk1 : k < len := by have := (List.getElem?_eq_some_iff.1 hk).1; omega
    have hc1 := hcell k (by omega)
    have hzk : zs.getD k 0 = x := by
      rw [List.getElem?_take, if_pos hk1] at hk
      rw [List.getD_eq_getElem?_getD, hk]; rfl
    rw [hzk] at hc1
    refine ⟨a, rfl, ?_, fun j u hu => ?_⟩
    · have := World.block_lt_of_cell? w _ hc1
      rwa [K.addr_block] at this
    · cases j with
      | zero => simp [eB] at hu; subst hu; rw [Nat.mul_one, K.addr_add0]; exact hc1
      | succ j => simp [eB] at hu
theorem slice_cap {t e : TypeId} {fuel : Nat} {A : Option Addr} {n c : Nat} {y : DataW H × List MemPlace} (ht : P.underlying t = some (.slice e)) (h : DataW.trod enc P w base spare held fuel t [.slice A n c] = some y) : n ≤ c := by
  rcases open_slice ht h with ⟨hcs, _⟩ | ⟨a, len, cap, m, _, D, Pl, hcs, _, hl, _⟩
  · simp at hcs; omega
  · simp at hcs; omega
end
section
variable {H : Type} {enc : TypeId × Value → H} {w : World} {base : Nat} {spare : Nat → Bool} {held : Bool}
set_option maxRecDepth 100000 in
/-- Bytes that came in. -/
theorem open_u8s {b0 : Nat} {v : Value} {d : DataW H} {p : List MemPlace} (hv : Value.okWide Try.prog w .any b0 66 v) (h : DataW.Trod enc Try.prog w base spare held 66 v d p) (hs : ∀ n ∈ d.weights Try.prog 66, n ≤ reachBytes) : ∃ (Y : Option Addr) (cy : Nat) (ys : List Int), v = .slice Y ys.length cy ∧ K.Rd w Y 1 eB ys ∧ (∀ x ∈ ys, 0 ≤ x ∧ x ≤ 255) ∧ ys.length ≤ 140737488351232 := by
  obtain ⟨fuel, hf⟩ := trod_one Try.underlying66 hv h
  obtain ⟨A, c, xs, hx, hb⟩ := slice_bytes Try.underlying66 Try.underlying5 (by kernel_rfl) hf
  refine ⟨A, c, xs, hx.1, hx.2.1, hb, ?_⟩
  rcases hx.2.2 with ⟨_, rfl⟩ | ⟨el, rest, rfl, hl⟩
  · simp
  · have hb1 : Try.prog.bytesOf 5 = 1 := by kernel_rfl
    have h1 := hs ((el.length + rest.length) * 1) (by simp [DataW.weights, Try.underlying66, hb1])
    have h3 : reachBytes ≤ 140737488351232 := by decide
    omega
set_option maxRecDepth 100000 in
theorem open_u5 {b0 : Nat} {v : Value} {d : DataW H} {p : List MemPlace} (hv : Value.okWide Try.prog w .any b0 84 v) (h : DataW.Trod enc Try.prog w base spare held 84 v d p) : ∃ x0 x1 x2 x3 x4 : Int, v = .agg #[.int .u8 x0, .int .u8 x1, .int .u8 x2, .int .u8 x3, .int .u8 x4] ∧ (0 ≤ x0 ∧ x0 ≤ 255) ∧ (0 ≤ x1 ∧ x1 ≤ 255) ∧ (0 ≤ x2 ∧ x2 ≤ 255) ∧ (0 ≤ x3 ∧ x3 ≤ 255) ∧ (0 ≤ x4 ∧ x4 ≤ 255) := by
  have k1 : Try.prog.cellsOf 84 = 5 := by kernel_rfl
  have k2 : Try.prog.cellsOf 5 = 1 := by kernel_rfl
  obtain ⟨xs, hl, rfl, hx⟩ := open_bytes Try.underlying84 Try.underlying5 k1 k2 hv h
  match xs, hl with
  | [x0, x1, x2, x3, x4], _ => exact ⟨x0, x1, x2, x3, x4, rfl, hx _ (by simp), hx _ (by simp), hx _ (by simp), hx _ (by simp), hx _ (by simp)⟩
set_option maxRecDepth 100000 in
/-- A case that came in, with the roads' capacity. -/
theorem open_caseC {b0 : Nat} {v : Value} {d : DataW H} {p : List MemPlace} (hv : Value.okWide Try.prog w .any b0 25 v) (h : DataW.Trod enc Try.prog w base spare held 25 v d p) (hs : ∀ n ∈ d.weights Try.prog 25, n ≤ reachBytes) :
    ∃ (kind base most : Int) (A B : Option Addr) (c e : Nat) (hs : List Int) (rs : List (Int × Int)), v = .agg #[.int .i64 kind, .int .i64 base, .int .i64 most, .slice A hs.length c, .slice B rs.length e] ∧
      ((Lit.int .i64 kind).wf = true ∧ (Lit.int .i64 base).wf = true ∧ (Lit.int .i64 most).wf = true) ∧ K.Rd w A 1 K.eI hs ∧ K.Rd w B 2 K.eP rs ∧ hs.length ≤ 17592186043904 ∧ rs.length ≤ 17592186043904 ∧ rs.length ≤ e := by
  obtain ⟨kind, bs, most, A, B, c, e, hs', rs, rfl, hw, r3, r4, l3, l4⟩ := open_case hv h hs
  refine ⟨kind, bs, most, A, B, c, e, hs', rs, rfl, hw, r3, r4, l3, l4, ?_⟩
  obtain ⟨v0, v1, v2, v3, v4, y0, y1, y2, y3, y4, n, hveq, _, _, _, _, _, _, t4⟩ := open_agg5 Try.underlying25 (by kernel_rfl) (by kernel_rfl) hv h
  simp at hveq
  obtain ⟨_, _, _, _, rfl⟩ := hveq
  exact slice_cap Try.underlying23 t4
end
end Go.Proofs.Ytafkbioeoklldaa
